/-
  Parts: F11, F5.
-/
import Derived.Test.YtipbempkngfdbaaDoorK26
import Derived.Test.YtipbempkngfdbaaDoorK24
set_option linter.unusedVariables false
/-
  TideTrue: all minutes.
-/
namespace Go.Proofs.YtipbempkngfdbaaDoor
open Go Go.Sy
set_option linter.unusedSimpArgs false
set_option maxRecDepth 100000
set_option maxHeartbeats 4000000
attribute [local irreducible] CallP CodeP Ent YieldP
set_option maxHeartbeats 16000000

/-- What is known of the minutes. -/
structure B6m (t : TD) (h s : Nat → Int) (p : Nat) (l hg fv fe sv se : Int) (S : List (Int × Int)) (K : Nat) (ms : Nat → Int) : Prop where
  hp : p < t.nS
  bK : (K : Int) ≤ 1000
  m : ∀ k, k < K → t.isMin (ms k)
  at' : ∀ k, k < K → TrueAt t h s p l hg fv fe sv se S (ms k)
  bS : S.length ≤ 1000
theorem t30t {n lo hi : Int} (h1 : lo ≤ n) (h2 : n ≤ hi) : CallP Tryd.prog 30 [.int .i64 n, .agg [.int .i64 lo, .int .i64 hi]] [] (Ret (.bool true) []) := by
  have := t30 n lo hi
  rw [decide_eq_true h1, decide_eq_true h2] at this
  exact this
theorem t30f {n lo hi : Int} (h : ¬ (lo ≤ n ∧ n ≤ hi)) : CallP Tryd.prog 30 [.int .i64 n, .agg [.int .i64 lo, .int .i64 hi]] [] (Ret (.bool false) []) := by
  have := t30 n lo hi
  by_cases h1 : lo ≤ n
  · rw [decide_eq_true h1, decide_eq_false (fun h2 => h ⟨h1, h2⟩)] at this
    exact this
  · rw [decide_eq_false h1] at this
    exact this
noncomputable def H6m (b : Bool) (n cap : Nat) (by' : Nat → Int) (c : Int) (t : TD) (h s : Nat → Int) (S : List (Int × Int)) (K : Nat) (ms : Nat → Int) : SHeap := H6t b n cap by' c t h s ++ [some (.roa 2 S.length (prow S)), some (.roa 1 K (rowI ms))]
noncomputable def T6e (t : TD) (ch cs : Nat) (l hg : Int) (p : Nat) (fv fe sv se : Int) (bS : Bool) (cS : Nat) (S : List (Int × Int)) (K cK : Nat) : Tm := mkT [] [(2, .bool false), (3, .fn (.func 81) [] [.ptr 3 0, .ptr 4 0]), (4, .ptr 10 0), (5, .osl true 8 1 t.nM ch), (6, .osl true 9 1 t.nS cs), (11, .int .i64 p), (12, .int .i64 l), (13, .int .i64 hg), (14, .int .i64 (t.mi 0)), (15, .int .i64 (t.mi (t.nM - 1))), (16, .osl bS 11 2 S.length cS), (18, .int .i64 fv), (19, .int .i64 fe), (20, .int .i64 sv), (21, .int .i64 se), (22, .slice 12 1 0 K cK)] 0 (List.replicate 367 none)
theorem seg6e (b : Bool) (n cap : Nat) (by' : Nat → Int) (c : Int) (t : TD) (h s : Nat → Int) (ch cs : Nat) (l hg : Int) (B : B6 by' n t h s c l hg) (p : Nat) (fv fe sv se : Int) (bS : Bool) (cS : Nat) (S : List (Int × Int)) (K cK : Nat) (ms : Nat → Int) (C : B6m t h s p l hg fv fe sv se S K ms) :
    CodeP Tryd.prog none 3 (sufC Tryd.f6 16) ⟨T6e t ch cs l hg p fv fe sv se bS cS S K cK, H6m b n cap by' c t h s S K ms, []⟩ (KRet E Tryd.f6 3 (.bool true) (H60 n by')) := by
  have hv := B.M.v
  have hM := hv.1
  have hS := hv.2.1
  have hK := C.bK
  have hp := C.hp
  have hSl := C.bS
  refine codeP_XK E_ok 1 ?_
  refine And.intro ?_ ?_
  · (repeat' (first | exact trivial | exact fun _ => rfl | exact rfl | refine And.intro ?_ ?_))
  refine loopP E_ok [2, 3, 4, 5, 6, 11, 12, 13, 14, 15, 16, 18, 19, 20, 21, 179, 180] (fun k : Nat => [(181, .int .i64 k)]) (fun _ H => H) (fun k => k ≤ K) (fun k => K - k) 0 (Nat.zero_le _) ?_ ?_
  · exact ent_tau [0, 1, 2, 3, 4, 5, 6, 7, 8, 9, 10, 11, 12] ⟨by (repeat' (first | exact trivial | exact rfl | exact fun _ _ => rfl | exact Or.inl rfl | refine And.intro ?_ ?_)), by (repeat' (first | exact trivial | exact rfl | exact congrArg (SV.int .i64) (Int.natCast_succ _).symm | refine And.intro ?_ ?_)), rfl⟩
  intro k hk
  have ek : 0 + ((k : Int)).toNat = k := by omega
  have ep : 0 + ((p : Int)).toNat = p := by omega
  refine And.intro ?_ (And.intro (fun hcc => ?_) (fun hcc => ?_))
  · (repeat' (first | exact trivial | exact fun _ => rfl | exact rfl | refine And.intro ?_ ?_))
  · have hk' : k < K := by
      have := of_decide_eq_true hcc
      omega
    have hm := C.m k hk'
    have hat := C.at' k hk'
    obtain ⟨a, b', hH, hw1, hw2⟩ := hat.hgt
    obtain ⟨lo, hi, hD, hd1, hd2⟩ := hat.dep
    have hst := stand_range hv hm B.M.hh
    have hsp := (B.M.ss p C.hp).2
    have c29 := t29 t hv h B.M.hh t.nM ch (Nat.le_refl _) (by omega) (ms k) hm
    have c22 := t22 t (ms k)
    have c25 := t25 t p (ms k)
    rw [hH] at c22
    rw [hD] at c25
    have em : ms (0 + ((k : Int)).toNat) = ms k := by rw [ek]
    rw [← em] at c29 c22 c25
    refine And.intro ?_ ?_
    · (repeat' (first | exact True.intro | exact d1 _ | exact d1t _ | exact d2 _ | exact d3 _ _ | exact d3f _ _ | exact fun _ _ => rfl | exact fun _ => rfl | exact rfl | refine And.intro ?_ ?_))
      all_goals exact un (by omega)
    refine (c29).use [5, 6, 7, 8] ?_ (by (repeat' (first | exact trivial | exact rfl | exact fun _ _ => rfl | exact Or.inl rfl | refine And.intro ?_ ?_))) rfl
    obtain ⟨d, ed⟩ : ∃ d, (if t.stand h (ms (0 + ((k : Int)).toNat)) - s (0 + ((p : Int)).toNat) > 0 then t.stand h (ms (0 + ((k : Int)).toNat)) - s (0 + ((p : Int)).toNat) else 0) = d := ⟨_, rfl⟩
    have ed' : t.dep (ms k) p (h, s) = d := by
      rw [← ed, em, ep]
      rfl
    rw [ed'] at hd1 hd2
    have w1 : a ≤ t.stand h (ms (0 + ((k : Int)).toNat)) := by rw [em]; exact hw1
    have w2 : t.stand h (ms (0 + ((k : Int)).toNat)) ≤ b' := by rw [em]; exact hw2
    have c30a := t30t w1 w2
    have c30b := t30t hd1 hd2
    rw [← ed] at c30b
    refine And.intro ?_ ?_
    · (repeat' (first | exact True.intro | exact d1 _ | exact d1t _ | exact d2 _ | exact d3 _ _ | exact d3f _ _ | exact fun _ _ => rfl | exact fun _ => rfl | exact rfl | refine And.intro ?_ ?_))
      all_goals first | exact un (by omega) | (rw [em, ep]; omega)
    refine (c22).use [5, 6, 7, 1, 2] ?_ (by (repeat' (first | exact trivial | exact rfl | exact fun _ _ => rfl | exact Or.inl rfl | refine And.intro ?_ ?_))) rfl
    refine And.intro trivial ?_
    refine (c25).use [5, 6, 7, 1, 2] ?_ (by (repeat' (first | exact trivial | exact rfl | exact fun _ _ => rfl | exact Or.inl rfl | refine And.intro ?_ ?_))) rfl
    (repeat' (first | exact trivial | exact fun _ => rfl | exact rfl | refine And.intro ?_ ?_))
    rotate_left
    · exact fun hx => absurd (show true = false from hx) (by decide)
    intro _
    refine (c30a).use [] ?_ (by (repeat' (first | exact trivial | exact rfl | exact fun _ _ => rfl | exact Or.inl rfl | refine And.intro ?_ ?_))) rfl
    (repeat' (first | exact trivial | exact fun _ => rfl | exact rfl | refine And.intro ?_ ?_))
    rotate_left
    · exact fun hx => absurd (show true = false from hx) (by decide)
    intro _
    refine (c30b).use [] ?_ (by (repeat' (first | exact trivial | exact rfl | exact fun _ _ => rfl | exact Or.inl rfl | refine And.intro ?_ ?_))) rfl
    refine And.intro ?_ (And.intro (fun hcd => ?_) (fun hcd => ?_))
    · (repeat' (first | exact True.intro | exact d1 _ | exact d1t _ | exact d2 _ | exact d3 _ _ | exact d3f _ _ | exact fun _ _ => rfl | exact fun _ => rfl | exact rfl | refine And.intro ?_ ?_))
    · exfalso
      have f := hat.first
      have u := hat.sure
      rw [ed, em] at hcd
      rw [ed'] at f u
      by_cases q1 : l ≤ d
      · obtain ⟨f1, f2⟩ := f q1
        simp [f1, show ¬ ms k < fv by omega, show ¬ d < l by omega] at hcd
      · simp [q1] at hcd
        exact q1 (u hcd.1.1 hcd.1.2)
    refine And.intro trivial ?_
    refine loopP E_ok [2, 3, 4, 5, 6, 11, 12, 13, 14, 15, 16, 18, 19, 20, 21, 25, 27, 179, 180, 181, 255, 256] (fun q : Nat => [(257, .int .i64 q)]) (fun _ H => H) (fun q => q ≤ S.length) (fun q => S.length - q) 0 (Nat.zero_le _) ?_ ?_
    · exact ent_tau [0, 1, 2, 3, 4, 5, 6, 7, 8, 9, 10, 11, 12, 13, 14] ⟨by (repeat' (first | exact trivial | exact rfl | exact fun _ _ => rfl | exact Or.inl rfl | refine And.intro ?_ ?_)), by (repeat' (first | exact trivial | exact rfl | exact congrArg (SV.int .i64) (Int.natCast_succ _).symm | refine And.intro ?_ ?_)), rfl⟩
    · intro q hq
      have eq0 : 0 + ((q : Int)).toNat = q := by omega
      refine And.intro ?_ (And.intro (fun hcq => ?_) (fun hcq => ?_))
      · (repeat' (first | exact trivial | exact fun _ => rfl | exact rfl | refine And.intro ?_ ?_))
      · have hq' : q < S.length := by
          have := of_decide_eq_true hcq
          omega
        have sv1 := hat.serv q hq'
        rw [ed'] at sv1
        refine And.intro ?_ ?_
        · (repeat' (first | exact True.intro | exact d1 _ | exact d1t _ | exact d2 _ | exact d3 _ _ | exact d3f _ _ | exact fun _ _ => rfl | exact fun _ => rfl | exact rfl | refine And.intro ?_ ?_))
          all_goals exact un (by omega)
        by_cases hin : (S.getD (0 + ((q : Int)).toNat) (0, 0)).1 ≤ ms (0 + ((k : Int)).toNat) ∧ ms (0 + ((k : Int)).toNat) ≤ (S.getD (0 + ((q : Int)).toNat) (0, 0)).2
        · have hin' := hin
          rw [eq0, em] at hin'
          obtain ⟨g1, g2⟩ := sv1 hin'.1 hin'.2
          have c30c := t30t hin.1 hin.2
          have c30d := t30t g1 g2
          rw [← ed] at c30d
          refine (c30c).use [] ?_ (by (repeat' (first | exact trivial | exact rfl | exact fun _ _ => rfl | exact Or.inl rfl | refine And.intro ?_ ?_))) rfl
          (repeat' (first | exact trivial | exact fun _ => rfl | exact rfl | refine And.intro ?_ ?_))
          rotate_left
          · exact fun hx => absurd (show true = false from hx) (by decide)
          intro _
          refine (t24 l hg).use [] ?_ (by (repeat' (first | exact trivial | exact rfl | exact fun _ _ => rfl | exact Or.inl rfl | refine And.intro ?_ ?_))) rfl
          (repeat' (first | exact trivial | exact fun _ => rfl | exact rfl | refine And.intro ?_ ?_))
          rotate_left
          · exact fun hx => absurd (show true = false from hx) (by decide)
          intro _
          refine (c30d).use [] ?_ (by (repeat' (first | exact trivial | exact rfl | exact fun _ _ => rfl | exact Or.inl rfl | refine And.intro ?_ ?_))) rfl
          refine And.intro ?_ (And.intro (fun hcd2 => ?_) (fun hcd2 => ?_))
          · (repeat' (first | exact True.intro | exact d1 _ | exact d1t _ | exact d2 _ | exact d3 _ _ | exact d3f _ _ | exact fun _ _ => rfl | exact fun _ => rfl | exact rfl | refine And.intro ?_ ?_))
          · exact absurd (show false = true from hcd2) (by decide)
          refine And.intro ?_ ⟨q + 1, hq', by omega, ?_⟩
          · (repeat' (first | exact trivial | exact fun _ => rfl | exact rfl | refine And.intro ?_ ?_))
            all_goals omega
          · exact ent_tau [0, 1, 2, 3, 4, 5, 6, 7, 8, 9, 10, 11, 12, 13, 14] ⟨by (repeat' (first | exact trivial | exact rfl | exact fun _ _ => rfl | exact Or.inl rfl | refine And.intro ?_ ?_)), by (repeat' (first | exact trivial | exact rfl | exact congrArg (SV.int .i64) (Int.natCast_succ _).symm | refine And.intro ?_ ?_)), rfl⟩
        · have c30f := t30f hin
          refine (c30f).use [] ?_ (by (repeat' (first | exact trivial | exact rfl | exact fun _ _ => rfl | exact Or.inl rfl | refine And.intro ?_ ?_))) rfl
          refine And.intro ?_ (And.intro (fun hx => absurd (show false = true from hx) (by decide)) (fun hx => ?_))
          · (repeat' (first | exact True.intro | exact d1 _ | exact d1t _ | exact d2 _ | exact d3 _ _ | exact d3f _ _ | exact fun _ _ => rfl | exact fun _ => rfl | exact rfl | refine And.intro ?_ ?_))
          refine And.intro ?_ (And.intro (fun hx => absurd (show false = true from hx) (by decide)) (fun hx => ?_))
          · (repeat' (first | exact True.intro | exact d1 _ | exact d1t _ | exact d2 _ | exact d3 _ _ | exact d3f _ _ | exact fun _ _ => rfl | exact fun _ => rfl | exact rfl | refine And.intro ?_ ?_))
          refine And.intro ?_ (And.intro (fun hcd2 => ?_) (fun hcd2 => ?_))
          · (repeat' (first | exact True.intro | exact d1 _ | exact d1t _ | exact d2 _ | exact d3 _ _ | exact d3f _ _ | exact fun _ _ => rfl | exact fun _ => rfl | exact rfl | refine And.intro ?_ ?_))
          · exact absurd (show false = true from hcd2) (by decide)
          refine And.intro ?_ ⟨q + 1, hq', by omega, ?_⟩
          · (repeat' (first | exact trivial | exact fun _ => rfl | exact rfl | refine And.intro ?_ ?_))
            all_goals omega
          · exact ent_tau [0, 1, 2, 3, 4, 5, 6, 7, 8, 9, 10, 11, 12, 13, 14] ⟨by (repeat' (first | exact trivial | exact rfl | exact fun _ _ => rfl | exact Or.inl rfl | refine And.intro ?_ ?_)), by (repeat' (first | exact trivial | exact rfl | exact congrArg (SV.int .i64) (Int.natCast_succ _).symm | refine And.intro ?_ ?_)), rfl⟩
      · refine And.intro ?_ ?_
        · (repeat' (first | exact trivial | exact fun _ => rfl | exact rfl | refine And.intro ?_ ?_))
        refine And.intro ?_ ?_
        · (repeat' (first | exact trivial | exact fun _ => rfl | exact rfl | refine And.intro ?_ ?_))
          all_goals omega
        refine ⟨k + 1, hk', by omega, ?_⟩
        exact ent_tau [0, 1, 2, 3, 4, 5, 6, 7, 8, 9, 10, 11, 12] ⟨by (repeat' (first | exact trivial | exact rfl | exact fun _ _ => rfl | exact Or.inl rfl | refine And.intro ?_ ?_)), by (repeat' (first | exact trivial | exact rfl | exact congrArg (SV.int .i64) (Int.natCast_succ _).symm | refine And.intro ?_ ?_)), rfl⟩
  · (repeat' (first | exact trivial | exact fun _ => rfl | exact rfl | refine And.intro ?_ ?_))
    refine CodeP.part (seg6f b n cap by' c t h s ch cs l hg B) ?_
    exact ent_tau [0, 1, 2, 3, 4, 5, 6, 7, 8, 9, 10] ⟨by (repeat' (first | exact trivial | exact rfl | exact fun _ _ => rfl | exact Or.inl rfl | refine And.intro ?_ ?_)), by (repeat' (first | exact trivial | exact rfl | exact congrArg (SV.int .i64) (Int.natCast_succ _).symm | refine And.intro ?_ ?_)), rfl⟩
end Go.Proofs.YtipbempkngfdbaaDoor
/-
  Contract: made, its last part: looks that are right (the walk).
-/
namespace Go.Proofs.YtipbempkngfdbaaDoor
open Go Go.Sy
set_option linter.unusedSimpArgs false
set_option maxRecDepth 100000
set_option maxHeartbeats 4000000
attribute [local irreducible] CallP CodeP Ent YieldP
set_option maxHeartbeats 16000000

def HC (b : Bool) (n cap : Nat) (by' : Nat → Int) (c : Int) (t : TD) (h s : Nat → Int) (ch cs : Nat) : SHeap := [some (.cells [.int .i64 c]), some (.roc [.osl b 2 1 n cap]), some (.roa 1 n fun k => [.int .u16 (by' k)]), some (.cells [.fn (.func 81) [] [.ptr 0 0, .ptr 1 0]]), some (.cells [.slice 5 3 0 t.nM t.cM, .slice 7 2 0 t.nS t.cS, .snil]), some (.arr 3 t.nM t.cM (row3 t.mi t.mlo t.mhi)), some (.arr 1 t.nM ch (rowI h)), some (.arr 2 t.nS t.cS (row2 t.slo t.shi)), some (.arr 1 t.nS cs (rowI s))]
def HC1 (b : Bool) (n cap : Nat) (by' : Nat → Int) (c : Int) (t : TD) (h s : Nat → Int) (ch cs : Nat) (k cl : Nat) (lp lm llo lhi : Nat → Int) : SHeap := [some (.cells [.int .i64 c]), some (.roc [.osl b 2 1 n cap]), some (.roa 1 n fun k => [.int .u16 (by' k)]), some (.cells [.fn (.func 81) [] [.ptr 0 0, .ptr 1 0]]), some (.cells [.slice 5 3 0 t.nM t.cM, .slice 7 2 0 t.nS t.cS, .slice 9 4 0 k cl]), some (.arr 3 t.nM t.cM (row3 t.mi t.mlo t.mhi)), some (.arr 1 t.nM ch (rowI h)), some (.arr 2 t.nS t.cS (row2 t.slo t.shi)), some (.arr 1 t.nS cs (rowI s)), some (.arr 4 k cl (row4 lp lm llo lhi))]
noncomputable def TC (t : TD) (ch cs : Nat) : Tm := mkT [] [(1, .ptr 3 0), (2, .ptr 4 0), (3, .slice 6 1 0 t.nM ch), (4, .slice 8 1 0 t.nS cs)] 0 (List.replicate 123 none)
theorem wl_made {t : TD} {h s : Nat → Int} {k : Nat} {lp lm llo lhi : Nat → Int} {b : Bool} {cl : Nat} (M : Made (t.wl k lp lm llo lhi b cl) h s) (hk : k < 6) {p : Nat} (hp : p < t.nS) {m : Int} (hm : t.isMin m) {v3 v4 : Int} (h3 : 0 ≤ v3 ∧ v3 < 2) (h4 : 0 ≤ v4 ∧ v4 < 3) {x : Int} (hx : x = max0 (t.stand h m - s p)) (b' : Bool) (cl' : Nat) :
    Made (t.wl (k + 1) (upd lp k p) (upd lm k m) (upd llo k (if x - v3 > 0 then x - v3 else 0)) (upd lhi k (if x + v4 < 60 then x + v4 else 60)) b' cl') h s := by
  have hst := stand_range M.v hm M.hh
  have hst' : 0 ≤ t.stand h m ∧ t.stand h m ≤ 60 := hst
  have hs := (M.ss p hp).2
  have hx0 : 0 ≤ x ∧ x ≤ 60 := by
    rw [hx]
    unfold max0
    split <;> omega
  have hlo : 0 ≤ (if x - v3 > 0 then x - v3 else 0) ∧ (if x - v3 > 0 then x - v3 else 0) ≤ x := by split <;> omega
  have hhi : x ≤ (if x + v4 < 60 then x + v4 else 60) ∧ (if x + v4 < 60 then x + v4 else 60) ≤ 60 := by split <;> omega
  generalize (if x - v3 > 0 then x - v3 else 0) = lo at *
  generalize (if x + v4 < 60 then x + v4 else 60) = hi at *
  obtain ⟨a1, a2, a3, a4, a5, a6⟩ := M.v
  have b1 : t.nM ≤ 4 := a1.2
  have b2 : t.nS ≤ 4 := a2.2
  refine ⟨⟨a1, a2, hk, a4, a5, fun i hi' => ?_⟩, ?_, M.hh, M.hm, M.hz, M.ss, M.sz, fun i hi' => ?_⟩
  · have hi2 : i < k + 1 := hi'
    rcases Nat.lt_succ_iff_lt_or_eq.1 hi2 with hlt | rfl
    · have := a6 i hlt
      simp only [TD.lookOk, TD.wl, upd, if_neg (Nat.ne_of_lt hlt)] at this ⊢
      exact this
    · simp only [TD.lookOk, TD.wl, upd, if_true]
      exact ⟨⟨by omega, by omega⟩, hm, by omega, by omega, by omega⟩
  · have ok := M.ok
    have hmi := a4
    have bm : 0 ≤ m ∧ m ≤ 240 := by
      have f0 : 0 < t.nM := by have : 2 ≤ t.nM := a1.1; omega
      have f1 : t.nM - 1 < t.nM := by omega
      have e0 := (a4 0 f0).1.1
      have e1 := (a4 (t.nM - 1) f1).1.2
      have e0' : 0 ≤ t.mi 0 := e0
      have e1' : t.mi (t.nM - 1) ≤ 240 := e1
      have := hm.1
      have := hm.2
      omega
    have inr : ∀ (f : Nat → Int) (v : Int), (∀ q, InR .i64 (f q)) → 0 ≤ v ∧ v ≤ 240 → ∀ q, InR .i64 (upd f k v q) := fun f v hf hv q => by
      unfold upd
      split
      · exact (inR_iff _).2 ⟨by omega, by omega⟩
      · exact hf q
    exact ⟨ok.mi, ok.mlo, ok.mhi, ok.slo, ok.shi, inr _ _ ok.lp ⟨by omega, by omega⟩, inr _ _ ok.lm bm, inr _ _ ok.llo ⟨by omega, by omega⟩, inr _ _ ok.lhi ⟨by omega, by omega⟩⟩
  · have hi2 : i < k + 1 := hi'
    rcases Nat.lt_succ_iff_lt_or_eq.1 hi2 with hlt | rfl
    · have := M.fit i hlt
      simp only [TD.fit, TD.wl, upd, if_neg (Nat.ne_of_lt hlt)] at this ⊢
      exact this
    · simp only [TD.fit, TD.wl, upd, if_true, Int.toNat_natCast]
      show inB (max0 (t.stand h m - s p)) lo hi = true
      rw [← hx]
      simp only [inB, Bool.and_eq_true, decide_eq_true_eq]
      omega
theorem made_none {t : TD} {h s : Nat → Int} (M : Made t h s) : Made (t.wl 0 (fun _ => 0) (fun _ => 0) (fun _ => 0) (fun _ => 0) (decide (0 < 0)) 0) h s := by
  obtain ⟨a1, a2, a3, a4, a5, a6⟩ := M.v
  have z : ∀ q : Nat, InR .i64 ((fun _ : Nat => (0 : Int)) q) := fun _ => (inR_iff _).2 ⟨by show _ ≤ (0 : Int); decide, by show (0 : Int) ≤ _; decide⟩
  exact ⟨⟨a1, a2, Nat.zero_le _, a4, a5, fun i hi => absurd hi (Nat.not_lt_zero i)⟩, ⟨M.ok.mi, M.ok.mlo, M.ok.mhi, M.ok.slo, M.ok.shi, z, z, z, z⟩, M.hh, M.hm, M.hz, M.ss, M.sz, fun i hi => absurd hi (Nat.not_lt_zero i)⟩
def pl28_19s : Plan := .eager 0 <| .eager 2 <| .eager 3 <| .eager 4 <| .eager 5 <| .eager 9 <| .eager 10 <| .alt 1 (.alt 6 (.eager 7 <| (.eager 8 <| .alt 11 (.eager 12 <| (.eager 13 <| .alt 14 (.alt 15 (.alt 16 (.eager 17 <| .alt 18 .done .no) .no) .no) .no)) .no)) .no) (.alt 6 (.eager 7 <| (.eager 8 <| .alt 1 (.alt 11 (.eager 12 <| (.eager 13 <| .alt 14 (.alt 15 (.alt 16 (.eager 17 <| .alt 18 .done .no) .no) .no) .no)) .no) (.alt 11 (.eager 12 <| (.eager 13 <| .alt 1 (.alt 14 (.alt 15 (.alt 16 (.eager 17 <| .alt 18 .done .no) .no) .no) .no) (.alt 14 (.alt 1 (.alt 15 (.alt 16 (.eager 17 <| .alt 18 .done .no) .no) .no) (.alt 15 (.alt 1 (.alt 16 (.eager 17 <| .alt 18 .done .no) .no) .no) .no)) .no))) .no))) .no)
theorem seg28c (b : Bool) (n cap : Nat) (by' : Nat → Int) (hby : ∀ k, 0 ≤ by' k ∧ by' k ≤ 65535) (hn : n ≤ 9223372036854775807) (c : Int) (hc : 0 ≤ c ∧ c ≤ 500000) (t : TD) (h s : Nat → Int) (M : Made t h s) (hM : t.bM = true) (hS : t.bS = true) (hL : t.nL = 0) (ch cs : Nat)
    (h1 : t.nM ≤ t.cM ∧ t.cM ≤ 9223372036854775807) (h2 : t.nS ≤ t.cS ∧ t.cS ≤ 9223372036854775807) (h3 : t.nM ≤ ch ∧ ch ≤ 9223372036854775807) (h4 : t.nS ≤ cs ∧ cs ≤ 9223372036854775807) :
    CodeP Tryd.prog none 3 (sufC Tryd.f28 5) ⟨TC t ch cs, HC b n cap by' c t h s ch cs, []⟩ (KRetK E Tryd.f28 3 (KMade b n cap by')) := by
  refine codeP_XK E_ok 1 ?_
  refine And.intro ?_ ?_
  · (repeat' (first | exact trivial | exact fun _ => rfl | exact rfl | refine And.intro ?_ ?_))
  refine CallP.frameH (t81 b n cap by' hby hn c ⟨by omega, by omega⟩ 7 (by decide)) [0, 1, 2] (by (repeat' (first | exact trivial | exact rfl | exact fun _ _ => rfl | exact Or.inl rfl | refine And.intro ?_ ?_))) rfl ?_
  rintro ce h' ⟨N, hN0, hN1, rfl, rfl⟩
  refine ⟨rfl, ?_⟩
  refine And.intro ?_ ?_
  · (repeat' (first | exact trivial | exact fun _ => rfl | exact rfl | refine And.intro ?_ ?_))
  refine loopP E_ok [1, 2, 3, 4, 63] (fun g : Nat × Int × (Nat → Int) × (Nat → Int) × (Nat → Int) × (Nat → Int) × Nat => [(64, .int .i64 g.1)])
    (fun g _ => match g.1 with | 0 => HC b n cap by' g.2.1 t h s ch cs | _ + 1 => HC1 b n cap by' g.2.1 t h s ch cs g.1 g.2.2.2.2.2.2 g.2.2.1 g.2.2.2.1 g.2.2.2.2.1 g.2.2.2.2.2.1)
    (fun g => (g.1 : Int) ≤ N ∧ (0 ≤ g.2.1 ∧ g.2.1 ≤ 500001 + 10 * g.1) ∧ Made (t.wl g.1 g.2.2.1 g.2.2.2.1 g.2.2.2.2.1 g.2.2.2.2.2.1 (decide (0 < g.1)) g.2.2.2.2.2.2) h s ∧ (0 < g.1 → g.1 ≤ g.2.2.2.2.2.2 ∧ g.2.2.2.2.2.2 ≤ 9223372036854775807) ∧ (g.1 = 0 → g.2.2.2.2.2.2 = 0)) (fun g => (N - g.1).toNat)
    (0, c + 1, fun _ => 0, fun _ => 0, fun _ => 0, fun _ => 0, 0) ⟨hN0, ⟨by simp only; omega, by simp only; omega⟩, ?_, fun h => absurd h (Nat.lt_irrefl 0), fun _ => rfl⟩ ?_ ?_
  · exact made_none M
  · exact ent_tau [0, 1, 2, 3, 4, 5, 6, 7, 8] ⟨by (repeat' (first | exact trivial | exact rfl | exact fun _ _ => rfl | exact Or.inl rfl | refine And.intro ?_ ?_)), by (repeat' (first | exact trivial | exact rfl | exact congrArg (SV.int .i64) (Int.natCast_succ _).symm | refine And.intro ?_ ?_)), rfl⟩
  rintro ⟨k, c2, lp, lm, llo, lhi, cl⟩ ⟨hk, hc2, Mk, hcl, hcl0⟩
  simp only at hk hc2 Mk hcl hcl0
  have hv := Mk.v
  have m0 := M.v.1
  have s0 := M.v.2.1
  have mk1 := (M.v.marks (i := 0) (by omega)).1
  have mk2 := (M.v.marks (i := t.nM - 1) (by omega)).1
  have mle : t.mi 0 ≤ t.mi (t.nM - 1) := mi_le M.v (Nat.zero_le _) (by omega)
  have e1 : ((t.nM : Int) - 1).toNat = t.nM - 1 := by omega
  have eL : t.mi (0 + ((t.nM : Int) - 1).toNat) = t.mi (t.nM - 1) := by rw [e1, Nat.zero_add]
  have hcl' : k ≤ cl ∧ cl ≤ 9223372036854775807 := by
    rcases Nat.eq_zero_or_pos k with h | h
    · rw [hcl0 h, h]; exact ⟨Nat.le_refl _, by omega⟩
    · exact hcl h
  cases k with
  | zero =>
    refine And.intro ?_ (And.intro (fun hcc => ?_) (fun hcc => ?_))
    · (repeat' (first | exact trivial | exact fun _ => rfl | exact rfl | refine And.intro ?_ ?_))
    · have hkN : ((0 : Nat) : Int) < N := of_decide_eq_true hcc
      refine And.intro trivial ?_
      refine drawP E_ok [3, 4, 5] pl28_16 (by kernel_rfl) ?_
      refine And.intro (And.intro ?_ ?_) trivial
      · (repeat' (first | exact True.intro | exact d1 _ | exact d1t _ | exact d2 _ | exact d3 _ _ | exact d3f _ _ | exact fun _ _ => rfl | exact fun _ => rfl | exact rfl | refine And.intro ?_ ?_))
        all_goals exact un (by omega)
      refine CallP.frameH (t81 b n cap by' hby hn c2 ⟨by omega, by omega⟩ t.nS ⟨by omega, by omega⟩) [0, 1, 2] (by (repeat' (first | exact trivial | exact rfl | exact fun _ _ => rfl | exact Or.inl rfl | refine And.intro ?_ ?_))) rfl ?_
      rintro ce h' ⟨p, hp0, hp1, rfl, rfl⟩
      refine ⟨rfl, ?_⟩
      refine And.intro ?_ ?_
      · (repeat' (first | exact True.intro | exact d1 _ | exact d1t _ | exact d2 _ | exact d3 _ _ | exact d3f _ _ | exact fun _ _ => rfl | exact fun _ => rfl | exact rfl | refine And.intro ?_ ?_))
      refine And.intro rfl ?_
      refine And.intro trivial ?_
      obtain ⟨pn, rfl⟩ : ∃ q : Nat, p = q := ⟨p.toNat, by omega⟩
      have ep : 0 + ((pn : Int)).toNat = pn := by omega
      have hpn : pn < t.nS := by omega
      have cd := t81 b n cap by' hby hn (c2 + 1) ⟨by omega, by omega⟩ (t.mi (t.nM - 1) - t.mi 0 + 1) ⟨by omega, by omega⟩
      rw [← eL] at cd
      refine drawP E_ok [3, 4, 5] pl28_17 (by kernel_rfl) ?_
      refine And.intro (And.intro ?_ ?_) trivial
      · (repeat' (first | exact True.intro | exact d1 _ | exact d1t _ | exact d2 _ | exact d3 _ _ | exact d3f _ _ | exact fun _ _ => rfl | exact fun _ => rfl | exact rfl | refine And.intro ?_ ?_))
        all_goals first | (rw [eL]; simp only [Int.toNat_zero, Nat.zero_add]; omega) | exact un (by omega) | omega
      refine CallP.frameH cd [0, 1, 2] (by (repeat' (first | exact trivial | exact rfl | exact fun _ _ => rfl | exact Or.inl rfl | refine And.intro ?_ ?_))) rfl ?_
      rintro ce h' ⟨v2, hv20, hv21, rfl, rfl⟩
      rw [eL] at hv21
      refine ⟨rfl, ?_⟩
      refine And.intro ?_ ?_
      · (repeat' (first | exact True.intro | exact d1 _ | exact d1t _ | exact d2 _ | exact d3 _ _ | exact d3f _ _ | exact fun _ _ => rfl | exact fun _ => rfl | exact rfl | refine And.intro ?_ ?_))
        all_goals first | (simp only [Int.toNat_zero, Nat.zero_add]; omega) | exact un (by omega) | omega
      refine And.intro rfl ?_
      refine And.intro trivial ?_
      have hm : t.isMin (t.mi 0 + v2) := ⟨by omega, by omega⟩
      have hst := stand_range M.v hm M.hh
      have hsp := (M.ss pn hpn).2
      have ct := t29n (t.wl 0 lp lm llo lhi (decide (0 < 0)) cl) hv hM hS rfl rfl (hcl0 rfl) h M.hh t.nM ch (Nat.le_refl _) (Nat.le_trans m0.2 (by decide)) _ hm
      refine drawP E_ok [4, 8] pl28_18 (by kernel_rfl) ?_
      refine And.intro (And.intro ?_ ?_) trivial
      · (repeat' (first | exact True.intro | exact d1 _ | exact d1t _ | exact d2 _ | exact d3 _ _ | exact d3f _ _ | exact fun _ _ => rfl | exact fun _ => rfl | exact rfl | refine And.intro ?_ ?_))
        all_goals exact un (by omega)
      refine CallP.frameH ct [5, 7, 6] (by (repeat' (first | exact trivial | exact rfl | exact fun _ _ => rfl | exact Or.inl rfl | refine And.intro ?_ ?_))) rfl ?_
      rintro ce h' ⟨rfl, rfl⟩
      refine ⟨rfl, ?_⟩
      have hstw : 0 ≤ (t.wl 0 lp lm llo lhi (decide (0 < 0)) cl).stand h (t.mi 0 + v2) ∧ (t.wl 0 lp lm llo lhi (decide (0 < 0)) cl).stand h (t.mi 0 + v2) ≤ 60 := hst
      refine And.intro ?_ ?_
      · (repeat' (first | exact True.intro | exact d1 _ | exact d1t _ | exact d2 _ | exact d3 _ _ | exact d3f _ _ | exact fun _ _ => rfl | exact fun _ => rfl | exact rfl | refine And.intro ?_ ?_))
        all_goals first | (rw [ep]; omega) | exact un (by omega)
      refine And.intro rfl ?_
      refine And.intro trivial ?_
      obtain ⟨m, em⟩ : ∃ m, t.mi 0 + v2 = m := ⟨_, rfl⟩
      obtain ⟨x, ex⟩ : ∃ x, max0 (t.stand h m - s pn) = x := ⟨_, rfl⟩
      have ex' : max0 ((t.wl 0 lp lm llo lhi (decide (0 < 0)) cl).stand h (t.mi 0 + v2) - s (0 + ((pn : Int)).toNat)) = x := by rw [ep, em]; exact ex
      rw [em] at hm hst
      have hx0 : 0 ≤ x ∧ x ≤ 60 := by
        rw [← ex]
        unfold max0
        split <;> omega
      refine cutP [] [(1, .ptr 3 0), (2, .ptr 4 0), (3, .slice 6 1 0 t.nM ch), (4, .slice 8 1 0 t.nS cs), (63, .int .i64 N), (64, .int .i64 (0 : Nat)), (9, .int .i64 pn), (10, .int .i64 m), (11, .int .i64 x)] (fun _ => HC b n cap by' (c2 + 1 + 1) t h s ch cs) ?_ ?_
      · refine ent_tau [0, 1, 2, 3, 4, 5, 6, 7, 8] ⟨by (repeat' (first | exact trivial | exact rfl | exact fun _ _ => rfl | exact Or.inl rfl | refine And.intro ?_ ?_)), ?_, rfl⟩
        (repeat' (first | exact trivial | exact rfl | exact congrArg (SV.int .i64) em | exact congrArg (SV.int .i64) ex' | refine And.intro ?_ ?_))
      clear ct cd ex' hstw em
      refine drawP E_ok [3] pl28_19s (by kernel_rfl) ?_
      (repeat' (first | exact trivial | exact fun _ => rfl | exact rfl | refine And.intro ?_ ?_))
      all_goals refine CallP.frameH (t81 b n cap by' hby hn (c2 + 1 + 1) ⟨by omega, by omega⟩ 2 (by decide)) [0, 1, 2] (by (repeat' (first | exact trivial | exact rfl | exact fun _ _ => rfl | exact Or.inl rfl | refine And.intro ?_ ?_))) rfl ?_
      all_goals rintro ce h' ⟨v3, hv30, hv31, rfl, rfl⟩
      all_goals refine ⟨rfl, ?_⟩
      all_goals (repeat' (first | exact trivial | exact fun _ => rfl | exact rfl | refine And.intro ?_ ?_))
      all_goals first | omega | exact un (by omega) | skip
      all_goals refine CallP.frameH (t81 b n cap by' hby hn (c2 + 1 + 1 + 1) ⟨by omega, by omega⟩ 3 (by decide)) [0, 1, 2] (by (repeat' (first | exact trivial | exact rfl | exact fun _ _ => rfl | exact Or.inl rfl | refine And.intro ?_ ?_))) rfl ?_
      all_goals rintro ce h' ⟨v4, hv40, hv41, rfl, rfl⟩
      all_goals refine ⟨rfl, ?_⟩
      all_goals (repeat' (first | exact trivial | exact fun _ => rfl | exact rfl | refine And.intro ?_ ?_))
      all_goals first | omega | exact un (by omega) | skip
      all_goals refine (t36 _ _ _ _).use [] ?_ trivial rfl
      all_goals (repeat' (first | exact trivial | exact fun _ => rfl | exact rfl | refine And.intro ?_ ?_))
      all_goals first | omega | exact un (by omega) | skip
      all_goals first | (intro c5 hc5 hc6) | exact hcl'.1 | exact hcl'.2 | omega | exact one1 rfl | (show _ * 32 ≤ 140737488355328; omega)
      all_goals (repeat' (first | exact trivial | exact fun _ => rfl | exact rfl | refine And.intro ?_ ?_))
      all_goals first | omega | exact un (by omega) | skip
      all_goals refine ⟨(0 + 1, c2 + 1 + 1 + 1 + 1, upd lp (0) pn, upd lm (0) m, upd llo (0) (if x - v3 > 0 then x - v3 else 0), upd lhi (0) (if x + v4 < 60 then x + v4 else 60), c5), ⟨?_, ⟨?_, ?_⟩, wl_made Mk (by omega) hpn hm ⟨hv30, hv31⟩ ⟨hv40, hv41⟩ ex.symm _ _, fun _ => ⟨hc5, hc6⟩, fun h => absurd h (Nat.succ_ne_zero _)⟩, ?_, ?_⟩
      all_goals first | (simp only; omega) | skip
      all_goals refine ent_tau [0, 1, 2, 3, 4, 5, 6, 7, 8, 10] ⟨?_, ?_, rfl⟩
      all_goals (repeat' (first | exact trivial | exact rfl | exact fun _ _ => rfl | exact congrArg (SV.int .i64) (Int.natCast_succ _).symm | refine And.intro ?_ ?_))
      all_goals first | exact (fun i hi => by have h0 : i = 0 := Nat.lt_one_iff.1 hi; subst h0; simp [row4, upd]; rfl) | skip
    · have hN : ((0 : Nat) : Int) = N := by
        have := of_decide_eq_false hcc
        omega
      (repeat' (first | exact trivial | exact fun _ => rfl | exact rfl | refine And.intro ?_ ?_))
      refine codeP_X E_ok ?_
      (repeat' (first | exact trivial | exact fun _ => rfl | exact rfl | refine And.intro ?_ ?_))
      refine ⟨.ret (.tup [.agg [.osl true 3 3 t.nM t.cM, .osl true 4 2 t.nS t.cS, .osl false 7 4 0 0], .osl true 5 1 t.nM ch, .osl true 6 1 t.nS cs]), HD b n cap by' c2 ++ [some (.arr 3 t.nM t.cM (row3 t.mi t.mlo t.mhi)), some (.arr 2 t.nS t.cS (row2 t.slo t.shi)), some (.arr 1 t.nM ch (rowI h)), some (.arr 1 t.nS cs (rowI s))], ⟨t.wl 0 lp lm llo lhi (decide (0 < 0)) cl, h, s, ch, cs, c2, Mk, ⟨by omega, by omega⟩, hM, hS, h1, h2, h3, h4, .inl ⟨rfl, rfl, hcl0 rfl, rfl, rfl⟩⟩, ?_⟩
      refine Ent.trans (t := ⟨[some (none, .tup [.agg [.slice 3 3 0 t.nM t.cM, .slice 4 2 0 t.nS t.cS, .snil], .slice 5 1 0 t.nM ch, .slice 6 1 0 t.nS cs])], HD b n cap by' c2 ++ [some (.arr 3 t.nM t.cM (row3 t.mi t.mlo t.mhi)), some (.arr 2 t.nS t.cS (row2 t.slo t.shi)), some (.arr 1 t.nM ch (rowI h)), some (.arr 1 t.nS cs (rowI s))], []⟩) ?_ (entV fun η => by simp [denL, den])
      exact ent_tau [0, 1, 2, 5, 7, 6, 8] ⟨by (repeat' (first | exact trivial | exact rfl | exact fun _ _ => rfl | exact Or.inl rfl | refine And.intro ?_ ?_)), by (repeat' (first | exact trivial | exact rfl | exact congrArg (SV.int .i64) (Int.natCast_succ _).symm | refine And.intro ?_ ?_)), rfl⟩
  | succ k =>
    refine And.intro ?_ (And.intro (fun hcc => ?_) (fun hcc => ?_))
    · (repeat' (first | exact trivial | exact fun _ => rfl | exact rfl | refine And.intro ?_ ?_))
    · have hkN : ((k + 1 : Nat) : Int) < N := of_decide_eq_true hcc
      refine And.intro trivial ?_
      refine drawP E_ok [3, 4, 5] pl28_16 (by kernel_rfl) ?_
      refine And.intro (And.intro ?_ ?_) trivial
      · (repeat' (first | exact True.intro | exact d1 _ | exact d1t _ | exact d2 _ | exact d3 _ _ | exact d3f _ _ | exact fun _ _ => rfl | exact fun _ => rfl | exact rfl | refine And.intro ?_ ?_))
        all_goals exact un (by omega)
      refine CallP.frameH (t81 b n cap by' hby hn c2 ⟨by omega, by omega⟩ t.nS ⟨by omega, by omega⟩) [0, 1, 2] (by (repeat' (first | exact trivial | exact rfl | exact fun _ _ => rfl | exact Or.inl rfl | refine And.intro ?_ ?_))) rfl ?_
      rintro ce h' ⟨p, hp0, hp1, rfl, rfl⟩
      refine ⟨rfl, ?_⟩
      refine And.intro ?_ ?_
      · (repeat' (first | exact True.intro | exact d1 _ | exact d1t _ | exact d2 _ | exact d3 _ _ | exact d3f _ _ | exact fun _ _ => rfl | exact fun _ => rfl | exact rfl | refine And.intro ?_ ?_))
      refine And.intro rfl ?_
      refine And.intro trivial ?_
      obtain ⟨pn, rfl⟩ : ∃ q : Nat, p = q := ⟨p.toNat, by omega⟩
      have ep : 0 + ((pn : Int)).toNat = pn := by omega
      have hpn : pn < t.nS := by omega
      have cd := t81 b n cap by' hby hn (c2 + 1) ⟨by omega, by omega⟩ (t.mi (t.nM - 1) - t.mi 0 + 1) ⟨by omega, by omega⟩
      rw [← eL] at cd
      refine drawP E_ok [3, 4, 5] pl28_17 (by kernel_rfl) ?_
      refine And.intro (And.intro ?_ ?_) trivial
      · (repeat' (first | exact True.intro | exact d1 _ | exact d1t _ | exact d2 _ | exact d3 _ _ | exact d3f _ _ | exact fun _ _ => rfl | exact fun _ => rfl | exact rfl | refine And.intro ?_ ?_))
        all_goals first | (rw [eL]; simp only [Int.toNat_zero, Nat.zero_add]; omega) | exact un (by omega) | omega
      refine CallP.frameH cd [0, 1, 2] (by (repeat' (first | exact trivial | exact rfl | exact fun _ _ => rfl | exact Or.inl rfl | refine And.intro ?_ ?_))) rfl ?_
      rintro ce h' ⟨v2, hv20, hv21, rfl, rfl⟩
      rw [eL] at hv21
      refine ⟨rfl, ?_⟩
      refine And.intro ?_ ?_
      · (repeat' (first | exact True.intro | exact d1 _ | exact d1t _ | exact d2 _ | exact d3 _ _ | exact d3f _ _ | exact fun _ _ => rfl | exact fun _ => rfl | exact rfl | refine And.intro ?_ ?_))
        all_goals first | (simp only [Int.toNat_zero, Nat.zero_add]; omega) | exact un (by omega) | omega
      refine And.intro rfl ?_
      refine And.intro trivial ?_
      have hm : t.isMin (t.mi 0 + v2) := ⟨by omega, by omega⟩
      have hst := stand_range M.v hm M.hh
      have hsp := (M.ss pn hpn).2
      have ct := t29s (t.wl (k + 1) lp lm llo lhi (decide (0 < k + 1)) cl) hv hM hS (by simp [TD.wl]) h M.hh t.nM ch (Nat.le_refl _) (Nat.le_trans m0.2 (by decide)) _ hm
      refine drawP E_ok [4, 8] pl28_18 (by kernel_rfl) ?_
      refine And.intro (And.intro ?_ ?_) trivial
      · (repeat' (first | exact True.intro | exact d1 _ | exact d1t _ | exact d2 _ | exact d3 _ _ | exact d3f _ _ | exact fun _ _ => rfl | exact fun _ => rfl | exact rfl | refine And.intro ?_ ?_))
        all_goals exact un (by omega)
      refine CallP.frameH ct [5, 7, 9, 6] (by (repeat' (first | exact trivial | exact rfl | exact fun _ _ => rfl | exact Or.inl rfl | refine And.intro ?_ ?_))) rfl ?_
      rintro ce h' ⟨rfl, rfl⟩
      refine ⟨rfl, ?_⟩
      have hstw : 0 ≤ (t.wl (k + 1) lp lm llo lhi (decide (0 < k + 1)) cl).stand h (t.mi 0 + v2) ∧ (t.wl (k + 1) lp lm llo lhi (decide (0 < k + 1)) cl).stand h (t.mi 0 + v2) ≤ 60 := hst
      refine And.intro ?_ ?_
      · (repeat' (first | exact True.intro | exact d1 _ | exact d1t _ | exact d2 _ | exact d3 _ _ | exact d3f _ _ | exact fun _ _ => rfl | exact fun _ => rfl | exact rfl | refine And.intro ?_ ?_))
        all_goals first | (rw [ep]; omega) | exact un (by omega)
      refine And.intro rfl ?_
      refine And.intro trivial ?_
      obtain ⟨m, em⟩ : ∃ m, t.mi 0 + v2 = m := ⟨_, rfl⟩
      obtain ⟨x, ex⟩ : ∃ x, max0 (t.stand h m - s pn) = x := ⟨_, rfl⟩
      have ex' : max0 ((t.wl (k + 1) lp lm llo lhi (decide (0 < k + 1)) cl).stand h (t.mi 0 + v2) - s (0 + ((pn : Int)).toNat)) = x := by rw [ep, em]; exact ex
      rw [em] at hm hst
      have hx0 : 0 ≤ x ∧ x ≤ 60 := by
        rw [← ex]
        unfold max0
        split <;> omega
      refine cutP [] [(1, .ptr 3 0), (2, .ptr 4 0), (3, .slice 6 1 0 t.nM ch), (4, .slice 8 1 0 t.nS cs), (63, .int .i64 N), (64, .int .i64 (k + 1 : Nat)), (9, .int .i64 pn), (10, .int .i64 m), (11, .int .i64 x)] (fun _ => HC1 b n cap by' (c2 + 1 + 1) t h s ch cs (k + 1) cl lp lm llo lhi) ?_ ?_
      · refine ent_tau [0, 1, 2, 3, 4, 5, 6, 7, 8, 9] ⟨by (repeat' (first | exact trivial | exact rfl | exact fun _ _ => rfl | exact Or.inl rfl | refine And.intro ?_ ?_)), ?_, rfl⟩
        (repeat' (first | exact trivial | exact rfl | exact congrArg (SV.int .i64) em | exact congrArg (SV.int .i64) ex' | refine And.intro ?_ ?_))
      clear ct cd ex' hstw em
      refine drawP E_ok [3] pl28_19s (by kernel_rfl) ?_
      (repeat' (first | exact trivial | exact fun _ => rfl | exact rfl | refine And.intro ?_ ?_))
      all_goals refine CallP.frameH (t81 b n cap by' hby hn (c2 + 1 + 1) ⟨by omega, by omega⟩ 2 (by decide)) [0, 1, 2] (by (repeat' (first | exact trivial | exact rfl | exact fun _ _ => rfl | exact Or.inl rfl | refine And.intro ?_ ?_))) rfl ?_
      all_goals rintro ce h' ⟨v3, hv30, hv31, rfl, rfl⟩
      all_goals refine ⟨rfl, ?_⟩
      all_goals (repeat' (first | exact trivial | exact fun _ => rfl | exact rfl | refine And.intro ?_ ?_))
      all_goals first | omega | exact un (by omega) | skip
      all_goals refine CallP.frameH (t81 b n cap by' hby hn (c2 + 1 + 1 + 1) ⟨by omega, by omega⟩ 3 (by decide)) [0, 1, 2] (by (repeat' (first | exact trivial | exact rfl | exact fun _ _ => rfl | exact Or.inl rfl | refine And.intro ?_ ?_))) rfl ?_
      all_goals rintro ce h' ⟨v4, hv40, hv41, rfl, rfl⟩
      all_goals refine ⟨rfl, ?_⟩
      all_goals (repeat' (first | exact trivial | exact fun _ => rfl | exact rfl | refine And.intro ?_ ?_))
      all_goals first | omega | exact un (by omega) | skip
      all_goals refine (t36 _ _ _ _).use [] ?_ trivial rfl
      all_goals (repeat' (first | exact trivial | exact fun _ => rfl | exact rfl | refine And.intro ?_ ?_))
      all_goals first | omega | exact un (by omega) | skip
      all_goals first | (intro c5 hc5 hc6) | exact hcl'.1 | exact hcl'.2 | omega | exact one1 rfl | (show _ * 32 ≤ 140737488355328; omega)
      all_goals (repeat' (first | exact trivial | exact fun _ => rfl | exact rfl | refine And.intro ?_ ?_))
      all_goals first | omega | exact un (by omega) | skip
      all_goals refine ⟨(k + 1 + 1, c2 + 1 + 1 + 1 + 1, upd lp (k + 1) pn, upd lm (k + 1) m, upd llo (k + 1) (if x - v3 > 0 then x - v3 else 0), upd lhi (k + 1) (if x + v4 < 60 then x + v4 else 60), c5), ⟨?_, ⟨?_, ?_⟩, wl_made Mk (by omega) hpn hm ⟨hv30, hv31⟩ ⟨hv40, hv41⟩ ex.symm _ _, fun _ => ⟨hc5, hc6⟩, fun h => absurd h (Nat.succ_ne_zero _)⟩, ?_, ?_⟩
      all_goals first | (simp only; omega) | skip
      all_goals refine ent_tau [0, 1, 2, 3, 4, 5, 6, 7, 8, 11] ⟨?_, ?_, rfl⟩
      all_goals (repeat' (first | exact trivial | exact rfl | exact fun _ _ => rfl | exact congrArg (SV.int .i64) (Int.natCast_succ _).symm | refine And.intro ?_ ?_))
      all_goals first | exact (fun i hi => row4_upd _ _ _ _ _ _ _ _ _ _ hi) | skip
    · have hN : ((k + 1 : Nat) : Int) = N := by
        have := of_decide_eq_false hcc
        omega
      (repeat' (first | exact trivial | exact fun _ => rfl | exact rfl | refine And.intro ?_ ?_))
      refine codeP_X E_ok ?_
      (repeat' (first | exact trivial | exact fun _ => rfl | exact rfl | refine And.intro ?_ ?_))
      refine ⟨.ret (.tup [.agg [.osl true 3 3 t.nM t.cM, .osl true 4 2 t.nS t.cS, .osl true 7 4 (k + 1) cl], .osl true 5 1 t.nM ch, .osl true 6 1 t.nS cs]), HD b n cap by' c2 ++ [some (.arr 3 t.nM t.cM (row3 t.mi t.mlo t.mhi)), some (.arr 2 t.nS t.cS (row2 t.slo t.shi)), some (.arr 1 t.nM ch (rowI h)), some (.arr 1 t.nS cs (rowI s)), some (.arr 4 (k + 1) cl (row4 lp lm llo lhi))], ⟨t.wl (k + 1) lp lm llo lhi (decide (0 < k + 1)) cl, h, s, ch, cs, c2, Mk, ⟨by omega, by omega⟩, hM, hS, h1, h2, h3, h4, .inr ⟨Nat.succ_pos k, decide_eq_true (Nat.succ_pos k), hcl', rfl, rfl⟩⟩, ?_⟩
      refine Ent.trans (t := ⟨[some (none, .tup [.agg [.slice 3 3 0 t.nM t.cM, .slice 4 2 0 t.nS t.cS, .slice 7 4 0 (k + 1) cl], .slice 5 1 0 t.nM ch, .slice 6 1 0 t.nS cs])], HD b n cap by' c2 ++ [some (.arr 3 t.nM t.cM (row3 t.mi t.mlo t.mhi)), some (.arr 2 t.nS t.cS (row2 t.slo t.shi)), some (.arr 1 t.nM ch (rowI h)), some (.arr 1 t.nS cs (rowI s)), some (.arr 4 (k + 1) cl (row4 lp lm llo lhi))], []⟩) ?_ (entV fun η => by simp [denL, den])
      exact ent_tau [0, 1, 2, 5, 7, 6, 8, 9] ⟨by (repeat' (first | exact trivial | exact rfl | exact fun _ _ => rfl | exact Or.inl rfl | refine And.intro ?_ ?_)), by (repeat' (first | exact trivial | exact rfl | exact congrArg (SV.int .i64) (Int.natCast_succ _).symm | refine And.intro ?_ ?_)), rfl⟩
end Go.Proofs.YtipbempkngfdbaaDoor
