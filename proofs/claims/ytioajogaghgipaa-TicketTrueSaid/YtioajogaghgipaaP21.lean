/-
  Parts: B19, C2, B24, B25, C3.
-/
import Derived.Test.YtioajogaghgipaaP19
import Derived.Test.YtioajogaghgipaaP20
set_option linter.unusedVariables false
/-
 Contract: ticket.Free.
-/
namespace Go.Proofs.Ytioajogaghgipaa
open Go Go.Sy Tic
set_option linter.unusedSimpArgs false
set_option maxRecDepth 100000
set_option maxHeartbeats 4000000
attribute [local irreducible] CallP CodeP Ent YieldP
set_option maxHeartbeats 16000000

theorem t75w (t : TK) (k : Int) : CallP Try.prog 75 [TA t, .int .i64 k] (TH t) (Ret (.bool (inI k 0 (IntKind.wrap .i64 (t.huts - 1)))) (TH t)) := by
 refine callR (E := Ew) Ew_ok Try.func75 rfl ?_
 (repeat' first|exact ap|refine aN ?_ ?_)
 all_goals first | exact om | skip
 refine (t97 _ _ _).use [] ?_ trivial rfl
 (repeat' first|exact ap|refine aN ?_ ?_)
 exact ent_tau [0] ⟨by (repeat' first|exact fp|refine aN ?_ ?_), by (repeat' first|exact tm|refine aN ?_ ?_), rfl⟩
theorem wrap_valid {t : TK} (hv : t.Valid) : IntKind.wrap .i64 (t.huts - 1) = t.huts - 1 := by
 have := hv.1
 exact wrap_in (k := .i64) ⟨by omega, by omega⟩
open Classical in
noncomputable def freT (t : TK) (h m : Int) : Int × Int := if ¬ t.Valid then (0, 1) else if (inI h 0 (t.huts - 1) && inI m 0 240) = false then (0, 2) else if t.trs = [] then (0, 10) else (t.freeT h m, 0)
theorem t22 (t : TK) (hn : t.n ≤ 1000000) (hh : InR .i64 t.huts) (h m : Int) : CallP Try.prog 22 [TA t, .int .i64 h, .int .i64 m] (TH t) (Ret (.tup [.int .i64 (freT t h m).1, .int .i64 (freT t h m).2]) (TH t)) := by
 obtain ⟨A, hA⟩ : ∃ A, inI h 0 (IntKind.wrap .i64 (t.huts - 1)) = A := ⟨_, rfl⟩
 obtain ⟨B, hB⟩ : ∃ B, inI m 0 240 = B := ⟨_, rfl⟩
 have c75 := t75w t h
 have c66 := t66 m
 rw [hA] at c75
 rw [hB] at c66
 have hX : t.Valid → (inI h 0 (t.huts - 1) && inI m 0 240) = (A && B) := fun hv => by
  rw [hB, ← hA, wrap_valid hv]
 have hM : B = true → 0 ≤ m ∧ m ≤ 240 := fun hb => inI_iff.1 (hB.trans hb)
 refine callD (E := E) E_ok Try.func22 rfl Try.func74 ⟨_, _, _, _, _, _, _, _, rfl, rfl, rfl⟩ rfl rfl ?_
 (repeat' first|exact ap|refine aN ?_ ?_)
 refine drawP E_ok [1] pl22_2 (by kernel_rfl) ?_
 (repeat' first|exact ap|refine aN ?_ ?_)
 refine c75.use [0] ?_ (by (repeat' first|exact fp|refine aN ?_ ?_)) rfl
 cases A
 ·all_goals (repeat' first|exact ap|refine aN ?_ ?_)
  all_goals first | exact gd | skip
  all_goals intro h1
  all_goals first | exact absurd h1 (by decide) | (cases h1; done) | skip
  all_goals (repeat' first|exact ap|refine aN ?_ ?_)
  all_goals first | exact g1 | exact g1f | exact g2 | exact g2f | exact gn | exact gi | ((with_reducible show under _ _); first | exact fun hh => hh | exact u1 (lt64 (by omega)) | exact u0 (lt64 (by omega)) | exact u0 (by omega) | exact u1 (by omega)) | skip
  refine CallP.frame (t48 t false hn hh) [0] (by (repeat' first|exact fp|refine aN ?_ ?_)) (apartB_ok rfl) rfl ?_
  rintro ce h' (⟨hv, hb, h0, rfl, rfl⟩ | ⟨hv, hb, h0, c, hc, rfl, rfl⟩ | ⟨hv, rfl, rfl⟩ | ⟨hv, hb, rfl, rfl⟩)
  ·cases hb
  ·cases hb
  ·refine ⟨ownB_ok rfl, ?_⟩
   have e0 : freT t h m = (0, 1) := by unfold freT; rw [if_pos hv]
   (repeat' first|exact ap|refine aN ?_ ?_)
   refine (t47s 1 0).use [2] ?_ (by (repeat' first|exact fp|refine aN ?_ ?_)) rfl
   (repeat' first|exact ap|refine aN ?_ ?_)
   refine ⟨_, _, ⟨rfl, rfl⟩, ?_⟩
   rw [e0]
   exact ent_tau [0] ⟨by (repeat' first|exact fp|refine aN ?_ ?_), by (repeat' first|exact tm|refine aN ?_ ?_), rfl⟩
  ·refine ⟨ownB_ok rfl, ?_⟩
   have e0 : freT t h m = (0, 2) := by unfold freT; rw [if_neg (by simpa using hv), if_pos (by rw [hX hv]; rfl)]
   (repeat' first|exact ap|refine aN ?_ ?_)
   refine (t47s 2 0).use [2] ?_ (by (repeat' first|exact fp|refine aN ?_ ?_)) rfl
   (repeat' first|exact ap|refine aN ?_ ?_)
   refine ⟨_, _, ⟨rfl, rfl⟩, ?_⟩
   rw [e0]
   exact ent_tau [0] ⟨by (repeat' first|exact fp|refine aN ?_ ?_), by (repeat' first|exact tm|refine aN ?_ ?_), rfl⟩
 ·all_goals (repeat' first|exact ap|refine aN ?_ ?_)
  all_goals first | exact gd | skip
  all_goals intro h1
  all_goals first | exact absurd h1 (by decide) | (cases h1; done) | skip
  refine c66.use [] ?_ trivial rfl
  all_goals (repeat' first|exact ap|refine aN ?_ ?_)
  all_goals first | exact g1 | exact g1f | exact g2 | exact g2f | exact gn | exact gi | ((with_reducible show under _ _); first | exact fun hh => hh | exact u1 (lt64 (by omega)) | exact u0 (lt64 (by omega)) | exact u0 (by omega) | exact u1 (by omega)) | skip
  refine CallP.frame (t48 t B hn hh) [0] (by (repeat' first|exact fp|refine aN ?_ ?_)) (apartB_ok rfl) rfl ?_
  rintro ce h' (⟨hv, hb, h0, rfl, rfl⟩ | ⟨hv, hb, h0, c, hc, rfl, rfl⟩ | ⟨hv, rfl, rfl⟩ | ⟨hv, hb, rfl, rfl⟩)
  ·refine ⟨ownB_ok rfl, ?_⟩
   have hm := hM hb
   have hx := hX hv
   have c57 := t57z t hv h0 _ _ (.inr (.inr ⟨h, m, hm, rfl, rfl⟩))
   (repeat' first|exact ap|refine aN ?_ ?_)
   refine CallP.frame c57 [0, 3] (by (repeat' first|exact fp|refine aN ?_ ?_)) (apartB_ok rfl) rfl ?_
   rintro ce h' ⟨rfl, rfl⟩
   refine ⟨ownB_ok rfl, ?_⟩
   unfold res57
   cases hne : t.trs with
   | nil =>
    have e0 : freT t h m = (0, 10) := by unfold freT; rw [if_neg (by simpa using hv), if_neg (by rw [hx, hb]; decide), if_pos hne]
    simp only [List.isEmpty_nil]
    (repeat' first|exact ap|refine aN ?_ ?_)
    refine (t47s 10 0).use [2] ?_ (by (repeat' first|exact fp|refine aN ?_ ?_)) rfl
    (repeat' first|exact ap|refine aN ?_ ?_)
    refine ⟨_, _, ⟨rfl, rfl⟩, ?_⟩
    rw [e0]
    exact ent_tau [0] ⟨by (repeat' first|exact fp|refine aN ?_ ?_), by (repeat' first|exact tm|refine aN ?_ ?_), rfl⟩
   | cons y l =>
    have hn0 : t.trs ≠ [] := by rw [hne]; exact List.cons_ne_nil _ _
    have e0 : freT t h m = (t.freeT h m, 0) := by unfold freT; rw [if_neg (by simpa using hv), if_neg (by rw [hx, hb]; decide), if_neg hn0]
    have hw := word_grade (Q := fun x => !t.used x h m) hn0
    rw [hne] at hw
    obtain ⟨A, hA⟩ : ∃ A, ((y :: l).any fun x => !t.used x h m) = A := ⟨_, rfl⟩
    obtain ⟨A', hA'⟩ : ∃ A, ((y :: l).any fun x => !!t.used x h m) = A := ⟨_, rfl⟩
    simp only [List.isEmpty_cons]
    rw [hA, hA'] at hw ⊢
    have c58 := t58 A A'
    have ht : t.freeT h m = grade (fun x => !t.used x h m) (y :: l) := by unfold TK.freeT; rw [hne]
    rw [hw, ← ht] at c58
    (repeat' first|exact ap|refine aN ?_ ?_)
    refine (c58).use [] ?_ (by (repeat' first|exact fp|refine aN ?_ ?_)) rfl
    (repeat' first|exact ap|refine aN ?_ ?_)
    refine (t47n 0).use [2] ?_ (by (repeat' first|exact fp|refine aN ?_ ?_)) rfl
    (repeat' first|exact ap|refine aN ?_ ?_)
    refine ⟨_, _, ⟨rfl, rfl⟩, ?_⟩
    rw [e0]
    exact ent_tau [0] ⟨by (repeat' first|exact fp|refine aN ?_ ?_), by (repeat' first|exact tm|refine aN ?_ ?_), rfl⟩
  ·refine ⟨ownB_ok rfl, ?_⟩
   have hm := hM hb
   have hx := hX hv
   have c57 := t57a t hv h0 c hc.1 _ _ (.inr (.inr ⟨h, m, hm, rfl, rfl⟩))
   (repeat' first|exact ap|refine aN ?_ ?_)
   refine CallP.frame c57 [0, 3, 4] (by (repeat' first|exact fp|refine aN ?_ ?_)) (apartB_ok rfl) rfl ?_
   rintro ce h' ⟨rfl, rfl⟩
   refine ⟨ownB_ok rfl, ?_⟩
   unfold res57
   cases hne : t.trs with
   | nil =>
    have e0 : freT t h m = (0, 10) := by unfold freT; rw [if_neg (by simpa using hv), if_neg (by rw [hx, hb]; decide), if_pos hne]
    simp only [List.isEmpty_nil]
    (repeat' first|exact ap|refine aN ?_ ?_)
    refine (t47s 10 0).use [2] ?_ (by (repeat' first|exact fp|refine aN ?_ ?_)) rfl
    (repeat' first|exact ap|refine aN ?_ ?_)
    refine ⟨_, _, ⟨rfl, rfl⟩, ?_⟩
    rw [e0]
    exact ent_tau [0] ⟨by (repeat' first|exact fp|refine aN ?_ ?_), by (repeat' first|exact tm|refine aN ?_ ?_), rfl⟩
   | cons y l =>
    have hn0 : t.trs ≠ [] := by rw [hne]; exact List.cons_ne_nil _ _
    have e0 : freT t h m = (t.freeT h m, 0) := by unfold freT; rw [if_neg (by simpa using hv), if_neg (by rw [hx, hb]; decide), if_neg hn0]
    have hw := word_grade (Q := fun x => !t.used x h m) hn0
    rw [hne] at hw
    obtain ⟨A, hA⟩ : ∃ A, ((y :: l).any fun x => !t.used x h m) = A := ⟨_, rfl⟩
    obtain ⟨A', hA'⟩ : ∃ A, ((y :: l).any fun x => !!t.used x h m) = A := ⟨_, rfl⟩
    simp only [List.isEmpty_cons]
    rw [hA, hA'] at hw ⊢
    have c58 := t58 A A'
    have ht : t.freeT h m = grade (fun x => !t.used x h m) (y :: l) := by unfold TK.freeT; rw [hne]
    rw [hw, ← ht] at c58
    (repeat' first|exact ap|refine aN ?_ ?_)
    refine (c58).use [] ?_ (by (repeat' first|exact fp|refine aN ?_ ?_)) rfl
    (repeat' first|exact ap|refine aN ?_ ?_)
    refine (t47n 0).use [2] ?_ (by (repeat' first|exact fp|refine aN ?_ ?_)) rfl
    (repeat' first|exact ap|refine aN ?_ ?_)
    refine ⟨_, _, ⟨rfl, rfl⟩, ?_⟩
    rw [e0]
    exact ent_tau [0] ⟨by (repeat' first|exact fp|refine aN ?_ ?_), by (repeat' first|exact tm|refine aN ?_ ?_), rfl⟩
  ·refine ⟨ownB_ok rfl, ?_⟩
   have e0 : freT t h m = (0, 1) := by unfold freT; rw [if_pos hv]
   (repeat' first|exact ap|refine aN ?_ ?_)
   refine (t47s 1 0).use [2] ?_ (by (repeat' first|exact fp|refine aN ?_ ?_)) rfl
   (repeat' first|exact ap|refine aN ?_ ?_)
   refine ⟨_, _, ⟨rfl, rfl⟩, ?_⟩
   rw [e0]
   exact ent_tau [0] ⟨by (repeat' first|exact fp|refine aN ?_ ?_), by (repeat' first|exact tm|refine aN ?_ ?_), rfl⟩
  ·refine ⟨ownB_ok rfl, ?_⟩
   have e0 : freT t h m = (0, 2) := by unfold freT; rw [if_neg (by simpa using hv), if_pos (by rw [hX hv]; exact hb)]
   (repeat' first|exact ap|refine aN ?_ ?_)
   refine (t47s 2 0).use [2] ?_ (by (repeat' first|exact fp|refine aN ?_ ?_)) rfl
   (repeat' first|exact ap|refine aN ?_ ?_)
   refine ⟨_, _, ⟨rfl, rfl⟩, ?_⟩
   rw [e0]
   exact ent_tau [0] ⟨by (repeat' first|exact fp|refine aN ?_ ?_), by (repeat' first|exact tm|refine aN ?_ ?_), rfl⟩
end Go.Proofs.Ytioajogaghgipaa
/-
 The document's answer: small functions; are tickets valid.
-/
namespace Go.Proofs.Ytioajogaghgipaa
open Go Go.Sy Tic
set_option linter.unusedSimpArgs false
set_option maxRecDepth 100000
set_option maxHeartbeats 4000000
attribute [local irreducible] CallP CodeP Ent YieldP
set_option maxHeartbeats 16000000

theorem t96 (lo hi : Int) : CallP Try.prog 96 [.agg [.int .i64 lo, .int .i64 hi]] [] (Ret (.bool (spanB lo hi)) []) := by
 refine callR (E := E) E_ok Try.func96 rfl ?_
 (repeat' first|exact ap|refine aN ?_ ?_)
 all_goals first | exact g1 | exact g1f | exact g2 | exact g2f | exact gn | skip
 all_goals first | (intro hh; simp [gB, wB, Bool.and_eq_true] at hh; exact (inR_iff _).2 ⟨by omega, by omega⟩) | skip
 refine ent_tau [] ⟨by (repeat' first|exact fp|refine aN ?_ ?_), ⟨rfl, ?_, trivial⟩, rfl⟩
 refine congrArg SV.bool ?_
 unfold spanB
 cases decide (0 ≤ lo) <;> cases decide (lo ≤ hi) <;> cases decide (hi ≤ 240) <;> rfl
theorem t76 (t : TK) (k : Int) (hh : InR .i64 (t.huts - 1)) : CallP Try.prog 76 [TA t, .int .i64 k] (TH t) (Ret (.bool (inI k 0 (t.huts - 1))) (TH t)) := by
 refine callR (E := E) E_ok Try.func76 rfl ?_
 (repeat' first|exact ap|refine aN ?_ ?_)
 all_goals first | exact u0 hh | exact hh | exact hh.1 | exact hh.2 | skip
 refine (t95 _ _ _).use [] ?_ trivial rfl
 (repeat' first|exact ap|refine aN ?_ ?_)
 exact ent_tau [0] ⟨by (repeat' first|exact fp|refine aN ?_ ?_), by (repeat' first|exact tm|refine aN ?_ ?_), rfl⟩
theorem t39 (t : TK) : CallP Try.prog 39 [TA t] (TH t) (Ret (.bool (decide (40 < t.n))) (TH t)) := by
 refine callR (E := E) E_ok Try.func39 rfl ?_
 (repeat' first|exact ap|refine aN ?_ ?_)
 refine ent_tau [0] ⟨by (repeat' first|exact fp|refine aN ?_ ?_), ⟨rfl, ?_, trivial⟩, rfl⟩
 exact congrArg SV.bool (decide_eq_decide.2 ⟨fun h => by omega, fun h => by omega⟩)
open Classical in
noncomputable def vb (t : TK) : Bool := decide t.Valid
open Classical in
theorem vb_iff {t : TK} : vb t = true ↔ t.Valid := by unfold vb; exact decide_eq_true_iff
open Classical in
theorem vb_no {t : TK} (h : ¬ t.Valid) : vb t = false := by unfold vb; exact decide_eq_false h
theorem vb_yes {t : TK} (h : t.Valid) : vb t = true := vb_iff.2 h
theorem t40 (t : TK) (hn : t.n ≤ 1000000) : CallP Try.prog 40 [TA t] (TH t) (Ret (.bool (vb t)) (TH t)) := by
 have c0 := t95 t.huts 1 4
 obtain ⟨b0, e0⟩ : ∃ b, inI t.huts 1 4 = b := ⟨_, rfl⟩
 rw [e0] at c0
 refine callR (E := E) E_ok Try.func40 rfl ?_
 (repeat' first|exact ap|refine aN ?_ ?_)
 refine c0.use [] ?_ trivial rfl
 cases b0 with
 | false =>
  have hnv : ¬ t.Valid := fun hv => by rw [inI_iff.2 hv.1] at e0; cases e0
  rw [vb_no hnv]
  all_goals (repeat' first|exact ap|refine aN ?_ ?_)
  all_goals first | exact gd | skip
  all_goals intro h1
  all_goals first | (exfalso; revert h1; simp [gB, wB]; done) | skip
  (repeat' first|exact ap|refine aN ?_ ?_)
  exact ent_tau [0] ⟨by (repeat' first|exact fp|refine aN ?_ ?_), by (repeat' first|exact tm|refine aN ?_ ?_), rfl⟩
 | true =>
  have h4 := inI_iff.1 e0
  by_cases h5 : t.n ≤ 5
  ·have e5 : decide (((t.n : Nat) : Int) > 5) = false := decide_eq_false (by omega)
   (repeat' first|exact ap|refine aN ?_ ?_)
   all_goals first | exact g1 | exact g1f | exact g2 | exact g2f | exact gn | exact gi | ((with_reducible show under _ _); first | exact fun hh => hh | exact u1 (lt64 (by omega)) | exact u0 (lt64 (by omega)) | exact u0 (by omega) | exact u1 (by omega)) | skip
   all_goals (repeat' first|exact ap|refine aN ?_ ?_)
   all_goals first | exact gd | skip
   all_goals intro h1
   all_goals first | (exfalso; revert h1; simp [gB, wB, e5]; done) | skip
   (repeat' first|exact ap|refine aN ?_ ?_)
   refine loopP E_ok [1] (fun i : Nat => [(3, .int .i64 i)]) (fun _ _ => TH t ++ [some (.cells (tb t))]) (fun i => i ≤ t.n ∧ ∀ j, j < i → okB t j = true) (fun i => t.n - i) 0 ⟨Nat.zero_le _, fun j hj => absurd hj (Nat.not_lt_zero j)⟩ ?_ ?_
   ·exact ent_tau [0, 1] ⟨by (repeat' first|exact fp|refine aN ?_ ?_), by (repeat' first|exact tm|refine aN ?_ ?_), rfl⟩
   rintro i ⟨hi, hall⟩
   refine And.intro ?_ (And.intro (fun hc => ?_) (fun hc => ?_))
   ·(repeat' first|exact ap|refine aN ?_ ?_)
   ·have hlt : i < t.n := by
     have := of_decide_eq_true hc
     omega
    have ei := z1 i
    obtain ⟨b1, e1⟩ : ∃ x, inI (t.hut (0 + ((i : Nat) : Int).toNat)) 0 (t.huts - 1) = x := ⟨_, rfl⟩
    obtain ⟨b2, e2⟩ : ∃ x, spanB (t.bl (0 + ((i : Nat) : Int).toNat)) (t.bh (0 + ((i : Nat) : Int).toNat)) = x := ⟨_, rfl⟩
    obtain ⟨b3, e3⟩ : ∃ x, spanB (t.dl (0 + ((i : Nat) : Int).toNat)) (t.dh (0 + ((i : Nat) : Int).toNat)) = x := ⟨_, rfl⟩
    have c1 := t76 t (t.hut (0 + ((i : Nat) : Int).toNat)) ((inR_iff _).2 ⟨by omega, by omega⟩)
    have c2 := t96 (t.bl (0 + ((i : Nat) : Int).toNat)) (t.bh (0 + ((i : Nat) : Int).toNat))
    have c3 := t96 (t.dl (0 + ((i : Nat) : Int).toNat)) (t.dh (0 + ((i : Nat) : Int).toNat))
    rw [e1] at c1
    rw [e2] at c2
    rw [e3] at c3
    have hok : okB t i = (b1 && (b2 && b3)) := by
     unfold okB
     rw [← e1, ← e2, ← e3, ei]
    have hbad : (b1 && (b2 && b3)) = false → vb t = false := fun q => vb_no fun hv => by
     have := okB_iff.2 (hv.2.2 _ hlt)
     rw [hok, q] at this
     cases this
    (repeat' first|exact ap|refine aN ?_ ?_)
    all_goals first | exact om | skip
    refine c1.use [0] ?_ (by (repeat' first|exact fp|refine aN ?_ ?_)) rfl
    cases b1 with
    | false =>
     rw [hbad rfl]
     all_goals (repeat' first|exact ap|refine aN ?_ ?_)
     all_goals first | exact gd | skip
     all_goals intro q1
     all_goals first | (exfalso; revert q1; simp [gB, wB]; done) | skip
     all_goals (repeat' first|exact ap|refine aN ?_ ?_)
     all_goals first | exact gd | skip
     all_goals intro q2
     all_goals first | (exfalso; revert q2; simp [gB, wB]; done) | skip
     (repeat' first|exact ap|refine aN ?_ ?_)
     all_goals first | exact g1 | exact g1f | exact g2 | exact g2f | exact gn | exact gi | ((with_reducible show under _ _); first | exact fun hh => hh | exact u1 (lt64 (by omega)) | exact u0 (lt64 (by omega)) | exact u0 (by omega) | exact u1 (by omega)) | skip
     all_goals (repeat' first|exact ap|refine aN ?_ ?_)
     all_goals first | exact gd | skip
     all_goals intro q3
     all_goals first | (exfalso; revert q3; simp [gB, wB]; done) | skip
     (repeat' first|exact ap|refine aN ?_ ?_)
     exact ent_tau [0] ⟨by (repeat' first|exact fp|refine aN ?_ ?_), by (repeat' first|exact tm|refine aN ?_ ?_), rfl⟩
    | true =>
     all_goals (repeat' first|exact ap|refine aN ?_ ?_)
     all_goals first | exact gd | skip
     all_goals intro q1
     all_goals first | (exfalso; revert q1; simp [gB, wB]; done) | skip
     refine c2.use [] ?_ trivial rfl
     cases b2 with
     | false =>
      rw [hbad rfl]
      all_goals (repeat' first|exact ap|refine aN ?_ ?_)
      all_goals first | exact gd | skip
      all_goals intro q2
      all_goals first | (exfalso; revert q2; simp [gB, wB]; done) | skip
      (repeat' first|exact ap|refine aN ?_ ?_)
      all_goals first | exact g1 | exact g1f | exact g2 | exact g2f | exact gn | exact gi | ((with_reducible show under _ _); first | exact fun hh => hh | exact u1 (lt64 (by omega)) | exact u0 (lt64 (by omega)) | exact u0 (by omega) | exact u1 (by omega)) | skip
      all_goals (repeat' first|exact ap|refine aN ?_ ?_)
      all_goals first | exact gd | skip
      all_goals intro q3
      all_goals first | (exfalso; revert q3; simp [gB, wB]; done) | skip
      (repeat' first|exact ap|refine aN ?_ ?_)
      exact ent_tau [0] ⟨by (repeat' first|exact fp|refine aN ?_ ?_), by (repeat' first|exact tm|refine aN ?_ ?_), rfl⟩
     | true =>
      all_goals (repeat' first|exact ap|refine aN ?_ ?_)
      all_goals first | exact gd | skip
      all_goals intro q2
      all_goals first | (exfalso; revert q2; simp [gB, wB]; done) | skip
      refine c3.use [] ?_ trivial rfl
      cases b3 with
      | false =>
       rw [hbad rfl]
       (repeat' first|exact ap|refine aN ?_ ?_)
       all_goals first | exact g1 | exact g1f | exact g2 | exact g2f | exact gn | exact gi | ((with_reducible show under _ _); first | exact fun hh => hh | exact u1 (lt64 (by omega)) | exact u0 (lt64 (by omega)) | exact u0 (by omega) | exact u1 (by omega)) | skip
       all_goals (repeat' first|exact ap|refine aN ?_ ?_)
       all_goals first | exact gd | skip
       all_goals intro q3
       all_goals first | (exfalso; revert q3; simp [gB, wB]; done) | skip
       (repeat' first|exact ap|refine aN ?_ ?_)
       exact ent_tau [0] ⟨by (repeat' first|exact fp|refine aN ?_ ?_), by (repeat' first|exact tm|refine aN ?_ ?_), rfl⟩
      | true =>
       (repeat' first|exact ap|refine aN ?_ ?_)
       all_goals first | exact g1 | exact g1f | exact g2 | exact g2f | exact gn | exact gi | ((with_reducible show under _ _); first | exact fun hh => hh | exact u1 (lt64 (by omega)) | exact u0 (lt64 (by omega)) | exact u0 (by omega) | exact u1 (by omega)) | skip
       all_goals (repeat' first|exact ap|refine aN ?_ ?_)
       all_goals first | exact gd | skip
       all_goals intro q3
       all_goals first | (exfalso; revert q3; simp [gB, wB]; done) | skip
       (repeat' first|exact ap|refine aN ?_ ?_)
       all_goals first | exact om | skip
       refine ⟨i + 1, ⟨hlt, fun j hj => ?_⟩, by omega, ?_⟩
       ·rcases Nat.lt_succ_iff_lt_or_eq.1 hj with d | rfl
        ·exact hall j d
        ·exact hok
       exact ent_tau [0, 1] ⟨by (repeat' first|exact fp|refine aN ?_ ?_), by (repeat' first|exact tm|refine aN ?_ ?_), rfl⟩
   ·have e : i = t.n := by
     have := of_decide_eq_false hc
     omega
    subst e
    rw [vb_yes ⟨h4, h5, fun j hj => okB_iff.1 (hall j hj)⟩]
    (repeat' first|exact ap|refine aN ?_ ?_)
    exact ent_tau [0] ⟨by (repeat' first|exact fp|refine aN ?_ ?_), by (repeat' first|exact tm|refine aN ?_ ?_), rfl⟩
  ·have hnv : ¬ t.Valid := fun hv => h5 hv.2.1
   have e5 : decide (((t.n : Nat) : Int) > 5) = true := decide_eq_true (by omega)
   rw [vb_no hnv]
   (repeat' first|exact ap|refine aN ?_ ?_)
   all_goals first | exact g1 | exact g1f | exact g2 | exact g2f | exact gn | exact gi | ((with_reducible show under _ _); first | exact fun hh => hh | exact u1 (lt64 (by omega)) | exact u0 (lt64 (by omega)) | exact u0 (by omega) | exact u1 (by omega)) | skip
   all_goals (repeat' first|exact ap|refine aN ?_ ?_)
   all_goals first | exact gd | skip
   all_goals intro h1
   all_goals first | (exfalso; revert h1; simp [gB, wB, e5]; done) | skip
   (repeat' first|exact ap|refine aN ?_ ?_)
   exact ent_tau [0] ⟨by (repeat' first|exact fp|refine aN ?_ ?_), by (repeat' first|exact tm|refine aN ?_ ?_), rfl⟩
end Go.Proofs.Ytioajogaghgipaa
/-
 Contracts: some of the tickets.
-/
namespace Go.Proofs.Ytioajogaghgipaa
open Go Go.Sy Tic
set_option linter.unusedSimpArgs false
set_option maxRecDepth 100000
set_option maxHeartbeats 4000000
attribute [local irreducible] CallP CodeP Ent YieldP
set_option maxHeartbeats 16000000

theorem wrap_bv (x : BitVec 64) : IntKind.wrap .u64 (x.toNat : Int) = x.toNat := wrap_in (k := .u64) ⟨by omega, by have := x.isLt; omega⟩
theorem and_nat {a b : Nat} (ha : a < 2 ^ 64) (hb : b < 2 ^ 64) : bitOp .and .u64 (a : Int) (b : Int) = ((a &&& b : Nat) : Int) := by
 show IntKind.wrap .u64 ((BitVec.ofInt 64 (a : Int) &&& BitVec.ofInt 64 (b : Int)).toNat : Int) = _
 rw [wrap_bv, ofInt_nat, ofInt_nat, BitVec.toNat_and, BitVec.toNat_ofNat, BitVec.toNat_ofNat, Nat.mod_eq_of_lt ha, Nat.mod_eq_of_lt hb]
theorem hasnot_nat {S n : Nat} (hS : S < 2 ^ 64) : decide (bitOp .and .u64 ((S : Int).fdiv (2 ^ n)) 1 = 0) = !S.testBit n := by
 have e : (S : Int).fdiv (2 ^ n) = ((S / 2 ^ n : Nat) : Int) := by
  rw [Int.fdiv_eq_ediv_of_nonneg _ (by have := Nat.pow_pos (n := n) (show 0 < 2 by omega); exact_mod_cast Nat.zero_le _)]
  norm_cast
 have h1 : S / 2 ^ n < 2 ^ 64 := Nat.lt_of_le_of_lt (Nat.div_le_self _ _) hS
 have e2 := and_nat (a := S / 2 ^ n) (b := 1) h1 (by decide)
 rw [e]
 have e3 : bitOp .and .u64 ((S / 2 ^ n : Nat) : Int) 1 = ((S / 2 ^ n &&& 1 : Nat) : Int) := e2
 rw [e3, Nat.and_one_is_mod, Nat.testBit_eq_decide_div_mod_eq]
 by_cases c : S / 2 ^ n % 2 = 1
 ·rw [decide_eq_true c, decide_eq_false (by omega)]
  rfl
 ·rw [decide_eq_false c, decide_eq_true (by omega)]
  rfl
def HC (c : Int) (S : Nat) : SHeap := [some (.cells [.int .i64 c]), some (.roc [.int .u64 S])]
theorem t110 (a b h d e : Int) (k : Nat) (hk : k < 64) (S : Nat) (hS : S < 2 ^ 64) : CallP Try.prog 110 [.agg [.int .i64 a, .int .i64 b, .int .i64 h, .int .i64 d, .int .i64 e], .ptr 0 0, .ptr 1 0] (HC ((k : Nat) - 1) S) (Ret (.bool (!S.testBit k)) (HC (k : Nat) S)) := by
 have e1 : ((k : Nat) : Int) - 1 + 1 = (k : Nat) := by omega
 have hb := hasnot_nat (n := k) hS
 refine callR (E := E) E_ok Try.func110 rfl ?_
 (repeat' first|exact ap|refine aN ?_ ?_)
 all_goals first | exact om | skip
 all_goals first | exact u0 (show (0 : Int) ≤ (k : Nat) - 1 + 1 by omega) | exact u0 (show (k : Nat) - 1 + 1 < ((IntKind.bits .u64 : Nat) : Int) from (by rw [e1]; show ((k : Nat) : Int) < 64; omega)) | skip
 refine ent_tau [0, 1] ⟨?_, ⟨rfl, ?_, trivial⟩, rfl⟩
 ·(repeat' first|exact fp|refine aN ?_ ?_)
  exact congrArg (fun z => [SV.int .i64 z]) e1
 ·refine congrArg SV.bool ?_
  rw [e1, Int.toNat_natCast]
  exact hb
def K114 (t : TK) (S : Nat) : CE → SHeap → Prop := fun ce h' =>
 (∃ i : Nat, i < t.n ∧ S.testBit i = false ∧ (∀ j, j < i → S.testBit j = true) ∧ ce = .ret (.int .i64 i) ∧ h' = some (.roa 5 t.n (TF t)) :: HC (i : Nat) S) ∨
 ((∀ j, j < t.n → S.testBit j = true) ∧ ce = .ret (.int .i64 (-1)) ∧ h' = [some (.roa 5 t.n (TF t)), some .dead, some (.roc [.int .u64 S])])
theorem t114 (t : TK) (hn : t.n ≤ 5) (S : Nat) (hS : S < 2 ^ 64) : CallP Try.prog 114 [.slice 0 5 0 t.n t.n, .fn (.func 110) [] [.ptr 1 0, .ptr 2 0]] (some (.roa 5 t.n (TF t)) :: HC (-1) S) (K114 t S) := by
 refine callK (E := E) E_ok Try.func114 rfl ?_
 (repeat' first|exact ap|refine aN ?_ ?_)
 refine loopP E_ok [0, 1, 7] (fun i : Nat => [(8, .int .i64 i)]) (fun i _ => some (.roa 5 t.n (TF t)) :: HC ((i : Nat) - 1) S) (fun i => i ≤ t.n ∧ ∀ j, j < i → S.testBit j = true) (fun i => t.n - i) 0 ⟨Nat.zero_le _, fun j hj => absurd hj (Nat.not_lt_zero j)⟩ ?_ ?_
 ·exact ent_tau [0, 1, 2] ⟨by (repeat' first|exact fp|refine aN ?_ ?_), by (repeat' first|exact tm|refine aN ?_ ?_), rfl⟩
 rintro i ⟨hi, hall⟩
 refine And.intro ?_ (And.intro (fun hc => ?_) (fun hc => ?_))
 ·(repeat' first|exact ap|refine aN ?_ ?_)
 ·have hlt : i < t.n := by
   have := of_decide_eq_true hc
   omega
  have ei := z1 i
  have c := t110 (t.bl (0 + ((i : Nat) : Int).toNat)) (t.bh (0 + ((i : Nat) : Int).toNat)) (t.hut (0 + ((i : Nat) : Int).toNat)) (t.dl (0 + ((i : Nat) : Int).toNat)) (t.dh (0 + ((i : Nat) : Int).toNat)) i (by omega) S hS
  cases hb : S.testBit i with
  | true =>
   rw [hb] at c
   (repeat' first|exact ap|refine aN ?_ ?_)
   all_goals first | exact om | skip
   refine c.use [1, 2] ?_ (by (repeat' first|exact fp|refine aN ?_ ?_)) rfl
   all_goals (repeat' first|exact ap|refine aN ?_ ?_)
   all_goals first | exact gd | skip
   all_goals intro h1
   all_goals first | exact absurd h1 (by decide) | (cases h1; done) | skip
   (repeat' first|exact ap|refine aN ?_ ?_)
   all_goals first | exact om | skip
   refine ⟨i + 1, ⟨hlt, fun j hj => ?_⟩, by omega, ?_⟩
   ·rcases Nat.lt_succ_iff_lt_or_eq.1 hj with d | rfl
    ·exact hall j d
    ·exact hb
   refine ent_tau [0, 1, 2] ⟨?_, by (repeat' first|exact tm|refine aN ?_ ?_), rfl⟩
   (repeat' first|exact fp|refine aN ?_ ?_)
   exact congrArg (fun z => [SV.int .i64 z]) (show ((i : Nat) : Int) = ((i + 1 : Nat) : Int) - 1 by omega)
  | false =>
   rw [hb] at c
   (repeat' first|exact ap|refine aN ?_ ?_)
   all_goals first | exact om | skip
   refine c.use [1, 2] ?_ (by (repeat' first|exact fp|refine aN ?_ ?_)) rfl
   all_goals (repeat' first|exact ap|refine aN ?_ ?_)
   all_goals first | exact gd | skip
   all_goals intro h1
   all_goals first | exact absurd h1 (by decide) | (cases h1; done) | skip
   (repeat' first|exact ap|refine aN ?_ ?_)
   all_goals first | exact om | skip
   refine ⟨_, _, .inl ⟨i, hlt, hb, hall, rfl, rfl⟩, ?_⟩
   exact ent_tau [0, 1, 2] ⟨by (repeat' first|exact fp|refine aN ?_ ?_), by (repeat' first|exact tm|refine aN ?_ ?_), rfl⟩
 ·have e : i = t.n := by
   have := of_decide_eq_false hc
   omega
  subst e
  (repeat' first|exact ap|refine aN ?_ ?_)
  refine ⟨_, _, .inr ⟨hall, rfl, rfl⟩, ?_⟩
  exact ent_tau [0, 1, 2] ⟨by (repeat' first|exact fp|refine aN ?_ ?_), by (repeat' first|exact tm|refine aN ?_ ?_), rfl⟩
end Go.Proofs.Ytioajogaghgipaa
/-
 Contract: some of the tickets are taken out.
-/
namespace Go.Proofs.Ytioajogaghgipaa
open Go Go.Sy Tic
set_option linter.unusedSimpArgs false
set_option maxRecDepth 100000
set_option maxHeartbeats 4000000
attribute [local irreducible] CallP CodeP Ent YieldP
set_option maxHeartbeats 16000000

theorem pickL_all {S : Nat} : ∀ {k : Nat}, (∀ j, j < k → S.testBit j = true) → TK.pickL S k = List.range k
 | 0, _ => rfl
 | k + 1, h => by
  rw [TK.pickL, pickL_all (fun j hj => h j (by omega)), h k (Nat.lt_succ_self k), List.range_succ]
theorem pickL_yes {S k : Nat} (h : S.testBit k = true) : TK.pickL S (k + 1) = TK.pickL S k ++ [k] := by
 rw [TK.pickL, h]
theorem pickL_no {S k : Nat} (h : S.testBit k = false) : TK.pickL S (k + 1) = TK.pickL S k := by
 rw [TK.pickL, h, List.append_nil]
theorem pickL_len (S : Nat) : ∀ k, (TK.pickL S k).length ≤ k
 | 0 => Nat.le_refl _
 | k + 1 => by
  have := pickL_len S k
  rw [TK.pickL, List.length_append]
  cases S.testBit k <;> simp <;> omega
theorem getD_range {k q : Nat} (h : q < k) : (List.range k).getD q 0 = q := by
 rw [List.getD_eq_getElem?_getD, List.getElem?_range h]
 rfl
def wr (w : Nat → Nat) (i j : Nat) : Nat → Nat := fun m => if m = i then w j else w m
theorem wr_row (t : TK) (w : Nat → Nat) {a b i j : Nat} (ha : a = i) (hb : b = j) (q : Nat) : selL (decide (q = a)) (splice (TF t (w a)) 0 (TF t (w b))) (TF t (w q)) = TF t (wr w i j q) := by
 subst ha hb
 unfold wr
 by_cases c : q = a
 ·rw [if_pos c, decide_eq_true c]
  rfl
 ·rw [if_neg c, decide_eq_false c]
  rfl
structure Inv9 (t : TK) (S : Nat) (j i : Nat) (w : Nat → Nat) : Prop where
 jn : j ≤ t.n
 ij : i < j
 len : i = (TK.pickL S j).length
 lo : ∀ q, q < i → w q = (TK.pickL S j).getD q 0
 hi : ∀ q, j ≤ q → w q = q
theorem Inv9.yes {t : TK} {S j i : Nat} {w : Nat → Nat} (h : Inv9 t S j i w) (hj : j < t.n) (hb : S.testBit j = true) : Inv9 t S (j + 1) (i + 1) (wr w i j) := by
 have hl := h.len
 have hij := h.ij
 refine ⟨hj, by omega, ?_, fun q hq => ?_, fun q hq => ?_⟩
 ·rw [pickL_yes hb, List.length_append, ← hl]
  rfl
 ·rw [pickL_yes hb]
  unfold wr
  rcases Nat.lt_succ_iff_lt_or_eq.1 hq with c | rfl
  ·rw [if_neg (by omega), h.lo q c, List.getD_eq_getElem?_getD, List.getD_eq_getElem?_getD, List.getElem?_append_left (by omega)]
  ·rw [if_pos rfl, h.hi j (Nat.le_refl _), List.getD_eq_getElem?_getD, List.getElem?_append_right (by omega), hl, Nat.sub_self]
   rfl
 ·unfold wr
  rw [if_neg (by omega)]
  exact h.hi q (by omega)
theorem Inv9.no {t : TK} {S j i : Nat} {w : Nat → Nat} (h : Inv9 t S j i w) (hj : j < t.n) (hb : S.testBit j = false) : Inv9 t S (j + 1) i w := by
 have hij := h.ij
 refine ⟨hj, by omega, ?_, fun q hq => ?_, fun q hq => h.hi q (by omega)⟩
 ·rw [pickL_no hb]
  exact h.len
 ·rw [pickL_no hb]
  exact h.lo q hq
theorem clr_row (t : TK) (S : Nat) (w : Nat → Nat) {a i b : Nat} {z : List SV} (ha : a = i) (hlo : ∀ q, q < i → w q = (TK.pickL S t.n).getD q 0) : ∀ k, k < i → selL (decide (a ≤ k ∧ k < b)) z (TF t (w k)) = TF t ((TK.pickL S t.n).getD k 0) := fun k hk => by
 rw [decide_eq_false (by omega), hlo k hk, selL_false]
def H9 (t : TK) (S : Nat) : SHeap := [some (.arr 5 (TK.pickL S t.n).length t.n (fun q => TF t ((TK.pickL S t.n).getD q 0))), some .dead, some (.roc [.int .u64 S])]
theorem t109 (t : TK) (hn : t.n ≤ 5) (S : Nat) (hS : S < 2 ^ 64) : CallP Try.prog 109 [.slice 0 5 0 t.n t.n, .fn (.func 110) [] [.ptr 1 0, .ptr 2 0]] (some (.arr 5 t.n t.n (TF t)) :: HC (-1) S) (Ret (.slice 0 5 0 (TK.pickL S t.n).length t.n) (H9 t S)) := by
 have c114 := t114 t hn S hS
 refine callR (E := E) E_ok Try.func109 rfl ?_
 (repeat' first|exact ap|refine aN ?_ ?_)
 refine CallP.frame c114 [0, 1, 2] (by (repeat' first|exact fp|refine aN ?_ ?_)) (apartB_ok rfl) rfl ?_
 rintro ce h' (⟨i0, hi0, hb0, hall, rfl, rfl⟩ | ⟨hall, rfl, rfl⟩)
 ·refine ⟨ownB_ok rfl, ?_⟩
  all_goals (repeat' first|exact ap|refine aN ?_ ?_)
  all_goals first | exact gd | skip
  all_goals intro h1
  all_goals first | exact absurd h1 (by decide) | (cases h1; done) | skip
  all_goals first | (exfalso; have := of_decide_eq_true h1; omega) | skip
  (repeat' first|exact ap|refine aN ?_ ?_)
  all_goals first | exact om | skip
  refine loopP E_ok [0, 1] (fun g : Nat × Nat × (Nat → Nat) => [(5, .int .i64 g.2.1), (6, .int .i64 g.1)]) (fun g _ => some (.arr 5 t.n t.n (fun q => TF t (g.2.2 q))) :: HC ((g.1 : Nat) - 1) S) (fun g => Inv9 t S g.1 g.2.1 g.2.2) (fun g => t.n - g.1) (i0 + 1, i0, id) ⟨hi0, Nat.lt_succ_self i0, by rw [pickL_no hb0, pickL_all hall, List.length_range], fun q hq => by rw [pickL_no hb0, pickL_all hall, getD_range hq]; rfl, fun _ _ => rfl⟩ ?_ ?_
  ·refine ent_tau [0, 1, 2] ⟨?_, by (repeat' first|exact tm|refine aN ?_ ?_), rfl⟩
   (repeat' first|exact fp|refine aN ?_ ?_)
   exact congrArg (fun z => [SV.int .i64 z]) (show ((i0 : Nat) : Int) = ((i0 + 1 : Nat) : Int) - 1 by omega)
  rintro ⟨j, i, w⟩ hI
  simp only at hI
  refine And.intro ?_ (And.intro (fun hc => ?_) (fun hc => ?_))
  ·(repeat' first|exact ap|refine aN ?_ ?_)
  ·have hlt : j < t.n := by
    have := of_decide_eq_true hc
    simp only at this
    omega
   have hij := hI.ij
   have ej := z1 j
   have ei := z1 i
   have c := t110 (t.bl (w (0 + ((j : Nat) : Int).toNat))) (t.bh (w (0 + ((j : Nat) : Int).toNat))) (t.hut (w (0 + ((j : Nat) : Int).toNat))) (t.dl (w (0 + ((j : Nat) : Int).toNat))) (t.dh (w (0 + ((j : Nat) : Int).toNat))) j (by omega) S hS
   cases hb : S.testBit j with
   | true =>
    rw [hb] at c
    (repeat' first|exact ap|refine aN ?_ ?_)
    all_goals first | exact om | skip
    refine c.use [1, 2] ?_ (by (repeat' first|exact fp|refine aN ?_ ?_)) rfl
    all_goals (repeat' first|exact ap|refine aN ?_ ?_)
    all_goals first | exact gd | skip
    all_goals intro h1
    all_goals first | exact absurd h1 (by decide) | (cases h1; done) | skip
    (repeat' first|exact ap|refine aN ?_ ?_)
    all_goals first | exact om | skip
    all_goals first | (simp only; omega) | exact u0 (by simp only; omega) | (show under none _; exact u0 (by simp only; omega)) | skip
    refine ⟨(j + 1, i + 1, wr w i j), hI.yes hlt hb, by simp only; omega, ?_⟩
    refine ent_tau [0, 1, 2] ⟨?_, by (repeat' first|exact tm|refine aN ?_ ?_), rfl⟩
    (repeat' first|exact fp|refine aN ?_ ?_)
    all_goals first | exact congrArg (fun z => [SV.int .i64 z]) (show ((j : Nat) : Int) = ((j + 1 : Nat) : Int) - 1 by omega) | skip
    all_goals exact fun q _ => wr_row t w ei ej q
   | false =>
    rw [hb] at c
    (repeat' first|exact ap|refine aN ?_ ?_)
    all_goals first | exact om | skip
    refine c.use [1, 2] ?_ (by (repeat' first|exact fp|refine aN ?_ ?_)) rfl
    all_goals (repeat' first|exact ap|refine aN ?_ ?_)
    all_goals first | exact gd | skip
    all_goals intro h1
    all_goals first | exact absurd h1 (by decide) | (cases h1; done) | skip
    (repeat' first|exact ap|refine aN ?_ ?_)
    all_goals first | exact om | skip
    refine ⟨(j + 1, i, w), hI.no hlt hb, by simp only; omega, ?_⟩
    refine ent_tau [0, 1, 2] ⟨?_, by (repeat' first|exact tm|refine aN ?_ ?_), rfl⟩
    (repeat' first|exact fp|refine aN ?_ ?_)
    all_goals exact congrArg (fun z => [SV.int .i64 z]) (show ((j : Nat) : Int) = ((j + 1 : Nat) : Int) - 1 by omega)
  ·have e : j = t.n := by
    have := of_decide_eq_false hc
    simp only at this
    have := hI.jn
    omega
   subst e
   have hij := hI.ij
   have hlen := hI.len
   have hlo := hI.lo
   have ea : 0 + (if ((i : Nat) : Int).toNat = t.n then 0 else ((i : Nat) : Int).toNat) = i := by
    rw [Int.toNat_natCast, if_neg (by omega)]
    omega
   have ebn : i + (t.n - ((i : Nat) : Int).toNat) ≤ t.n := by omega
   rw [← ea] at ebn
   have hin : ((i : Nat) : Int) ≤ (t.n : Nat) := by omega
   have hrow := clr_row t S w (b := 0 + (if ((i : Nat) : Int).toNat = t.n then 0 else ((i : Nat) : Int).toNat) + (t.n - ((i : Nat) : Int).toNat)) (z := [SV.int .i64 0, SV.int .i64 0, SV.int .i64 0, SV.int .i64 0, SV.int .i64 0]) ea hlo
   (repeat' first|exact ap|refine aN ?_ ?_)
   all_goals first | exact om | skip
   all_goals first | exact u0 hin | exact hin | (show _ ≤ t.n; rw [ea] at ebn ⊢; exact ebn) | exact ebn | skip
   refine Ent.trans (entCut (i := 0) (m' := i) (get' := fun q => TF t ((TK.pickL S t.n).getD q 0)) rfl (by omega) hrow) ?_
   rw [Int.toNat_natCast]
   unfold H9
   rw [← hlen]
   exact ent_tau [0, 1, 2] ⟨by (repeat' first|exact fp|refine aN ?_ ?_), by (repeat' first|exact tm|refine aN ?_ ?_), rfl⟩
 ·refine ⟨ownB_ok rfl, ?_⟩
  have e := pickL_all hall
  have el : (TK.pickL S t.n).length = t.n := by rw [e, List.length_range]
  all_goals (repeat' first|exact ap|refine aN ?_ ?_)
  all_goals first | exact gd | skip
  all_goals intro h1
  all_goals first | exact absurd h1 (by decide) | (cases h1; done) | skip
  (repeat' first|exact ap|refine aN ?_ ?_)
  unfold H9
  rw [el]
  refine ent_tau [0, 1, 2] ⟨?_, by (repeat' first|exact tm|refine aN ?_ ?_), rfl⟩
  (repeat' first|exact fp|refine aN ?_ ?_)
  all_goals exact fun q hq => congrArg (TF t) (by rw [e, getD_range hq])
end Go.Proofs.Ytioajogaghgipaa
/-
 The document's answer: powers, sets, some of the tickets.
-/
namespace Go.Proofs.Ytioajogaghgipaa
open Go Go.Sy Tic
set_option linter.unusedSimpArgs false
set_option maxRecDepth 100000
set_option maxHeartbeats 4000000
attribute [local irreducible] CallP CodeP Ent YieldP
set_option maxHeartbeats 16000000

theorem pop_half : ∀ S : Fin 32, TK.pop S = S.val % 2 + TK.pop (S.val / 2) := by decide +kernel
theorem pop_step {m : Nat} (h : m < 32) : TK.pop m = m % 2 + TK.pop (m / 2) := pop_half ⟨m, h⟩
theorem pop_zero : TK.pop 0 = 0 := by decide +kernel
theorem t38 (S : Nat) (hS : S < 32) : CallP Try.prog 38 [.int .i64 S] [] (Ret (.int .i64 (TK.pop S : Nat)) []) := by
 refine callR (E := E) E_ok Try.func38 rfl ?_
 (repeat' first|exact ap|refine aN ?_ ?_)
 refine loopP E_ok [] (fun g : Nat × Nat => [(0, .int .i64 g.1), (3, .int .i64 g.2)]) (fun _ H => H) (fun g => g.1 < 32 ∧ g.2 + TK.pop g.1 = TK.pop S) (fun g => g.1) (S, 0) ⟨hS, Nat.zero_add _⟩ ?_ ?_
 ·exact ent_tau [] ⟨by (repeat' first|exact fp|refine aN ?_ ?_), by (repeat' first|exact tm|refine aN ?_ ?_), rfl⟩
 rintro ⟨m, j⟩ ⟨hm, hj⟩
 simp only at hm hj
 have hp := pop_step hm
 have h7 := TK.pop_le5 S
 refine And.intro ?_ (And.intro (fun hc => ?_) (fun hc => ?_))
 ·(repeat' first|exact ap|refine aN ?_ ?_)
 ·have hm0 : 0 < m := by
   have := of_decide_eq_true hc
   omega
  have e1 : ((m : Nat) : Int).tmod 2 = ((m % 2 : Nat) : Int) := by
   rw [Int.tmod_eq_emod_of_nonneg (by omega)]
   rfl
  have e2 : ((m : Nat) : Int).tdiv 2 = ((m / 2 : Nat) : Int) := by
   rw [Int.tdiv_eq_ediv_of_nonneg (by omega)]
   rfl
  (repeat' first|exact ap|refine aN ?_ ?_)
  all_goals first | exact om | (rw [e1]; omega) | (rw [e2]; omega) | skip
  refine ⟨(m / 2, j + m % 2), ⟨by simp only; omega, by simp only; omega⟩, by simp only; omega, ?_⟩
  refine ent_tau [] ⟨by (repeat' first|exact fp|refine aN ?_ ?_), ?_, rfl⟩
  (repeat' (first | exact trivial | exact rfl | exact congrArg (SV.int .i64) e2 | exact congrArg (SV.int .i64) (by rw [e1]; exact (Int.natCast_add _ _).symm) | refine And.intro ?_ ?_))
 ·have e : m = 0 := by
   have := of_decide_eq_false hc
   omega
  subst e
  have e2 : j = TK.pop S := by rw [← hj, pop_zero]; rfl
  (repeat' first|exact ap|refine aN ?_ ?_)
  refine ent_tau [] ⟨by (repeat' first|exact fp|refine aN ?_ ?_), ⟨rfl, ?_, trivial⟩, rfl⟩
  exact congrArg (fun z : Nat => SV.int .i64 z) e2
end Go.Proofs.Ytioajogaghgipaa
