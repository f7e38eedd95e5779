/-
  Parts: T5.
-/
import Derived.Test.YtioajogaghgipaaK18
import Derived.Test.YtioajogaghgipaaK27
set_option linter.unusedVariables false
/-
  TicketFree.
-/
namespace Go.Proofs.Ytioajogaghgipaa
open Go Go.Sy Tic
set_option linter.unusedSimpArgs false
set_option maxRecDepth 100000
set_option maxHeartbeats 4000000
attribute [local irreducible] CallP CodeP Ent YieldP
set_option maxHeartbeats 16000000

theorem more_valid {t : TK} (hv : t.Valid) (hn : t.n ≤ 4) {h m : Int} (hh : 0 ≤ h ∧ h ≤ t.huts - 1) (hm : 0 ≤ m ∧ m ≤ 240) : (t.more h m).Valid := by
  refine ⟨hv.1, by show t.n + 1 ≤ 5; omega, fun k hk => ?_⟩
  unfold TK.okT spanOk TK.more
  simp only
  by_cases c : k = t.n
  · simp only [if_pos c]
    omega
  · have hk' : k < t.n + 1 := hk
    have h1 := hv.2.2 k (by omega)
    unfold TK.okT spanOk at h1
    simp only [if_neg c]
    omega
theorem row_more (t : TK) (h m : Int) (g : Nat → List SV) : ∀ q, q < 0 + t.n + 1 → selL (decide (q < 0 + t.n)) (selL (decide (q < 0)) (g q) (TF t (0 + (q - 0)))) (getOf 5 (splice (repL 1 [SV.int .i64 0, SV.int .i64 0, SV.int .i64 0, SV.int .i64 0, SV.int .i64 0]) (0 * 5) [SV.int .i64 m, SV.int .i64 m, SV.int .i64 h, SV.int .i64 m, SV.int .i64 m]) (0 + (q - (0 + t.n)))) = TF (t.more h m) q := fun q hq => by
  rw [decide_eq_false (Nat.not_lt_zero q), selL_false, Nat.sub_zero, Nat.zero_add, Nat.zero_add]
  by_cases c : q < t.n
  · rw [decide_eq_true c, selL_true]
    have c' : ¬ q = t.n := by omega
    unfold TF TK.more
    simp [c']
  · obtain rfl : q = t.n := by omega
    rw [decide_eq_false c, selL_false, Nat.sub_self]
    show [SV.int .i64 m, SV.int .i64 m, SV.int .i64 h, SV.int .i64 m, SV.int .i64 m] = _
    unfold TF TK.more
    simp
theorem any_hut {t : TK} {h : Int} (H : anyB (fun i => decide (t.hut i = h)) t.n = false) : ∀ i, i < t.n → t.hut i ≠ h := fun i hi e => by
  rw [anyB_iff.2 ⟨i, hi, decide_eq_true e⟩] at H
  cases H
noncomputable def T9 (h m : Int) : Tm := mkT [] [(3, .ptr 1 0), (6, .bool false), (7, .int .i64 h), (8, .int .i64 m)] 0 (List.replicate 166 none)
theorem cla_e {t : TK} (hv : t.Valid) (w : Int) (h0 : w = 0 → t.trs = []) : (bif (bif decide (w = 0) then !decide ((claT t).2 = 0) else false) then true else (bif !decide ((claT t).2 = 0) then !decide ((claT t).2 = 4) else false)) = false := by
  by_cases hne : t.trs = []
  · rw [cla_is hv hne]
    cases decide (w = 0) <;> rfl
  · rw [cla_none hv hne, decide_eq_false fun e => hne (h0 e)]
    rfl
noncomputable def T9b (h m w : Int) : Tm := mkT [] [(3, .ptr 1 0), (7, .int .i64 h), (8, .int .i64 m), (9, .int .i64 w), (16, .ptr 2 0)] 0 (List.replicate 166 none)
theorem seg9b (t : TK) (hv : t.Valid) (hn : t.n ≤ 4) (h m : Int) (hh : 0 ≤ h ∧ h ≤ t.huts - 1) (hm : 0 ≤ m ∧ m ≤ 240) (hne : t.trs ≠ []) (w : Int) (w1 : w = 0 → (t.more h m).trs = []) (N : Nat) (hN : N = t.n + 1) (c : Nat) (hc : N ≤ c) :
    CodeP Try.prog none 1 (sufC Try.f9 12) ⟨T9b h m w, TH t ++ [some (.cells (tb t)), some (.cells [.int .i64 t.huts, .slice 3 5 0 N c]), some (.arr 5 N c (TF (t.more h m)))], []⟩ (KRet E Try.f9 1 (.bool true) (TH t)) := by
  subst hN
  have h4 := hv.1
  have hI : InR .i64 t.huts := ⟨by omega, by omega⟩
  have mv := more_valid hv hn hh hm
  have c30 := t30 { t.more h m with b := true, cap := c } (by show t.n + 1 ≤ _; omega) hI
  have ce := cla_e (valid_bc true c mv) w (fun e => by rw [trs_bc]; exact w1 e)
  obtain ⟨z, hz⟩ : ∃ z, claT { t.more h m with b := true, cap := c } = z := ⟨_, rfl⟩
  rw [hz] at c30 ce
  have c22a := t22 t (by omega) hI t.huts m
  have c22b := t22 t (by omega) hI h 241
  have c22c := t22 t (by omega) hI (-1) m
  have ia : inI t.huts 0 (t.huts - 1) = false := by rw [← Bool.not_eq_true, inI_iff]; omega
  have ib : inI 241 0 240 = false := by rw [← Bool.not_eq_true, inI_iff]; omega
  have ic : inI (-1) 0 (t.huts - 1) = false := by rw [← Bool.not_eq_true, inI_iff]; omega
  have ea : freT t t.huts m = (0, 2) := by
    unfold freT
    rw [if_neg (by simpa using hv), if_pos (by rw [ia]; rfl)]
  have eb : freT t h 241 = (0, 2) := by
    unfold freT
    rw [if_neg (by simpa using hv), if_pos (by rw [ib]; cases inI h 0 (t.huts - 1) <;> rfl)]
  have ec : freT t (-1) m = (0, 2) := by
    unfold freT
    rw [if_neg (by simpa using hv), if_pos (by rw [ic]; rfl)]
  rw [ea] at c22a
  rw [eb] at c22b
  rw [ec] at c22c
  dsimp only at c22a c22b c22c
  refine codeP_XK E_ok 100 ?_
  (repeat' (first | exact aq | refine And.intro ?_ ?_ | exact trivial))
  refine CallP.argsD (args' := [.agg [.int .i64 t.huts, .osl true 3 5 (t.n + 1) c]]) (fun η => by simp [denL, den]) ?_
  refine c30.use [3] ?_ (by (repeat' (first | exact fp | refine And.intro ?_ ?_))) rfl
  clear c30
  (repeat' (first | exact aq | refine And.intro ?_ ?_ | exact trivial))
  all_goals first | exact dd | skip
  all_goals intro hx
  all_goals first | (exfalso; rw [ce] at hx; exact Bool.noConfusion hx) | skip
  clear hx
  (repeat' (first | exact aq | refine And.intro ?_ ?_ | exact trivial))
  refine c22a.use [0] ?_ (by (repeat' (first | exact fp | refine And.intro ?_ ?_))) rfl
  (repeat' (first | exact aq | refine And.intro ?_ ?_ | exact trivial))
  refine c22b.use [0] ?_ (by (repeat' (first | exact fp | refine And.intro ?_ ?_))) rfl
  (repeat' (first | exact aq | refine And.intro ?_ ?_ | exact trivial))
  refine c22c.use [0] ?_ (by (repeat' (first | exact fp | refine And.intro ?_ ?_))) rfl
  all_goals (repeat' (first | exact aq | refine And.intro ?_ ?_ | exact trivial))
  all_goals first | exact dd | skip
  all_goals intro hg
  all_goals first | exact absurd hg (by decide) | skip
  refine t13.use [] ?_ trivial rfl
  (repeat' (first | exact aq | refine And.intro ?_ ?_ | exact trivial))
  all_goals first | exact dd | skip
  exact ent_tau [0] ⟨by (repeat' (first | exact fp | refine And.intro ?_ ?_)), by (repeat' (first | exact tm | refine And.intro ?_ ?_)), rfl⟩
theorem seg9 (t : TK) (hv : t.Valid) (hn : t.n ≤ 4) (h m : Int) (hh : 0 ≤ h ∧ h ≤ t.huts - 1) (hm : 0 ≤ m ∧ m ≤ 240) : CodeP Try.prog none 1 (sufC Try.f9 3) ⟨T9 h m, TH t ++ [some (.cells (tb t))], []⟩ (KRet E Try.f9 1 (.bool true) (TH t)) := by
  have h4 := hv.1
  have hI : InR .i64 t.huts := ⟨by omega, by omega⟩
  have c22 := t22 t (by omega) hI h m
  have c30 := t30 t (by omega) hI
  by_cases hne : t.trs = []
  · have e22 : freT t h m = (0, 10) := by unfold freT; rw [if_neg (by simpa using hv), if_neg (by rw [inI_iff.2 hh, inI_iff.2 hm]; decide), if_pos hne]
    rw [e22] at c22
    rw [cla_is hv hne] at c30
    dsimp only at c22 c30
    refine codeP_XK E_ok 9 ?_
    (repeat' (first | exact aq | refine And.intro ?_ ?_ | exact trivial))
    refine c22.use [0] ?_ (by (repeat' (first | exact fp | refine And.intro ?_ ?_))) rfl
    (repeat' (first | exact aq | refine And.intro ?_ ?_ | exact trivial))
    refine c30.use [0] ?_ (by (repeat' (first | exact fp | refine And.intro ?_ ?_))) rfl
    all_goals (repeat' (first | exact aq | refine And.intro ?_ ?_ | exact trivial))
    all_goals first | exact dd | skip
    all_goals intro h1
    all_goals first | exact absurd h1 (by decide) | (cases h1; done) | skip
    all_goals (repeat' (first | exact aq | refine And.intro ?_ ?_ | exact trivial))
    all_goals first | exact dd | skip
    all_goals intro h2
    all_goals first | exact absurd h2 (by decide) | (cases h2; done) | skip
    (repeat' (first | exact aq | refine And.intro ?_ ?_ | exact trivial))
    refine t13.use [] ?_ trivial rfl
    (repeat' (first | exact aq | refine And.intro ?_ ?_ | exact trivial))
    exact ent_tau [0] ⟨by (repeat' (first | exact fp | refine And.intro ?_ ?_)), by (repeat' (first | exact tm | refine And.intro ?_ ?_)), rfl⟩
  · rw [fre_is hv hne h m hh hm] at c22
    rw [cla_none hv hne] at c30
    obtain ⟨w, hw⟩ : ∃ w, t.freeT h m = w := ⟨_, rfl⟩
    have w1 : w = 0 → (t.more h m).trs = [] := fun e => TK.free_never hne (hw.trans e)
    have w2 : anyB (fun i => decide (t.hut i = h)) t.n = false → w = 2 := fun e => by rw [← hw]; exact TK.free_none (any_hut e) hne m
    rw [hw] at c22
    dsimp only at c22 c30
    refine codeP_XK E_ok 9 ?_
    (repeat' (first | exact aq | refine And.intro ?_ ?_ | exact trivial))
    refine c22.use [0] ?_ (by (repeat' (first | exact fp | refine And.intro ?_ ?_))) rfl
    (repeat' (first | exact aq | refine And.intro ?_ ?_ | exact trivial))
    refine c30.use [0] ?_ (by (repeat' (first | exact fp | refine And.intro ?_ ?_))) rfl
    all_goals (repeat' (first | exact aq | refine And.intro ?_ ?_ | exact trivial))
    all_goals first | exact dd | skip
    all_goals intro h1
    all_goals first | exact absurd h1 (by decide) | (cases h1; done) | skip
    all_goals (repeat' (first | exact aq | refine And.intro ?_ ?_ | exact trivial))
    all_goals first | exact dd | skip
    all_goals intro h2
    all_goals first | exact absurd h2 (by decide) | (cases h2; done) | skip
    (repeat' (first | exact aq | refine And.intro ?_ ?_ | exact trivial))
    refine loopP E_ok [3, 7, 8, 9, 80, 81] (fun i : Nat => [(13, .bool (anyB (fun i => decide (t.hut i = h)) i)), (82, .int .i64 i)]) (fun _ _ => TH t ++ [some (.cells (tb t))]) (fun i => i ≤ t.n) (fun i => t.n - i) 0 (Nat.zero_le _) ?_ ?_
    · exact ent_tau [0, 1] ⟨by (repeat' (first | exact fp | refine And.intro ?_ ?_)), by (repeat' (first | exact tm | refine And.intro ?_ ?_)), rfl⟩
    rintro i hi
    refine And.intro ?_ (And.intro (fun hlt => ?_) (fun hlt => ?_))
    · (repeat' (first | exact aq | refine And.intro ?_ ?_ | exact trivial))
    · have hlt' : i < t.n := by
        have := of_decide_eq_true hlt
        omega
      have ei := z1 i
      have eh : t.hut (0 + ((i : Nat) : Int).toNat) = t.hut i := by rw [ei]
      (repeat' (first | exact aq | refine And.intro ?_ ?_ | exact trivial))
      all_goals first | exact dd | skip
      refine ⟨i + 1, hlt', by omega, ?_⟩
      refine ent_tau [0, 1] ⟨by (repeat' (first | exact fp | refine And.intro ?_ ?_)), ?_, rfl⟩
      (repeat' (first | exact tm | refine And.intro ?_ ?_))
      refine congrArg SV.bool ?_
      rw [eh, anyB]
      cases anyB (fun i => decide (t.hut i = h)) i <;> rfl
    · have e : i = t.n := by
        have := of_decide_eq_false hlt
        omega
      subst e
      have p1 := t42 m m h m m
      obtain ⟨s, hs⟩ : ∃ s, anyB (fun i => decide (t.hut i = h)) t.n = s := ⟨_, rfl⟩
      have hs2 : (bif !s then !decide (w = 2) else false) = false := by
        cases s with
        | true => rfl
        | false => rw [decide_eq_true (w2 hs)]; rfl
      (repeat' (first | exact aq | refine And.intro ?_ ?_ | exact trivial))
      all_goals first | exact dd | skip
      all_goals intro hx
      all_goals first | (exfalso; rw [hs, hs2] at hx; exact Bool.noConfusion hx) | skip
      clear hx
      (repeat' (first | exact aq | refine And.intro ?_ ?_ | exact trivial))
      all_goals first | exact dd | skip
      all_goals first | exact (fun k _ => rfl) | (show (0 + t.n) * 40 ≤ 140737488355328; omega) | skip
      intro c hc1 hc2
      have hc1 : 0 + t.n ≤ c := hc1
      (repeat' (first | exact aq | refine And.intro ?_ ?_ | exact trivial))
      all_goals first | exact dd | skip
      refine p1.use [] ?_ (by (repeat' (first | exact fp | refine And.intro ?_ ?_))) rfl
      (repeat' (first | exact aq | refine And.intro ?_ ?_ | exact trivial))
      all_goals first | exact dd | skip
      all_goals first | exact one1 rfl | (show (0 + t.n + 1) * 40 ≤ 140737488355328; omega) | (show 0 + t.n ≤ 0 + t.n; omega) | exact hc1 | exact hc2 | skip
      intro c' hd1 hd2
      have hd1 : 0 + t.n + 1 ≤ c' := hd1
      (repeat' (first | exact aq | refine And.intro ?_ ?_ | exact trivial))
      all_goals first | exact dd | skip
      refine CodeP.part (seg9b t hv hn h m hh hm hne w w1 (0 + t.n + 1) (by omega) c' hd1) ?_
      refine ent_tau [0, 1, 2, 6] ⟨?_, by (repeat' (first | exact tm | refine And.intro ?_ ?_)), rfl⟩
      (repeat' (first | exact fp | refine And.intro ?_ ?_))
      all_goals exact row_more t h m _
theorem t9 (t : TK) (hI : InR .i64 t.huts) (hl : t.n ≤ 9223372036854775807) (a b : Int) (ha : 0 ≤ a ∧ a ≤ 255) (hb : 0 ≤ b ∧ b ≤ 255) : CallP Try.prog 9 [TA t, .int .u8 a, .int .u8 b] (TH t) (Ret (.bool true) (TH t)) := by
  have c39 := t39 t
  by_cases h40 : 40 < t.n
  · rw [decide_eq_true h40] at c39
    refine callR (E := E) E_ok Try.func9 rfl ?_
    (repeat' (first | exact aq | refine And.intro ?_ ?_ | exact trivial))
    refine c39.use [0] ?_ (by (repeat' (first | exact fp | refine And.intro ?_ ?_))) rfl
    all_goals (repeat' (first | exact aq | refine And.intro ?_ ?_ | exact trivial))
    all_goals first | exact dd | skip
    all_goals intro h1
    all_goals first | exact absurd h1 (by decide) | (cases h1; done) | skip
    (repeat' (first | exact aq | refine And.intro ?_ ?_ | exact trivial))
    all_goals first | exact dd | skip
    all_goals (repeat' (first | exact aq | refine And.intro ?_ ?_ | exact trivial))
    all_goals first | exact dd | skip
    all_goals intro h2
    all_goals first | exact absurd h2 (by decide) | (cases h2; done) | skip
    (repeat' (first | exact aq | refine And.intro ?_ ?_ | exact trivial))
    all_goals first | exact dd | skip
    refine t13.use [] ?_ trivial rfl
    (repeat' (first | exact aq | refine And.intro ?_ ?_ | exact trivial))
    exact ent_tau [0] ⟨by (repeat' (first | exact fp | refine And.intro ?_ ?_)), by (repeat' (first | exact tm | refine And.intro ?_ ?_)), rfl⟩
  · rw [decide_eq_false h40] at c39
    have c40 := t40 t (by omega)
    obtain ⟨v, hv⟩ : ∃ v, vb t = v := ⟨_, rfl⟩
    rw [hv] at c40
    cases v with
    | false =>
      refine callR (E := E) E_ok Try.func9 rfl ?_
      (repeat' (first | exact aq | refine And.intro ?_ ?_ | exact trivial))
      refine c39.use [0] ?_ (by (repeat' (first | exact fp | refine And.intro ?_ ?_))) rfl
      all_goals (repeat' (first | exact aq | refine And.intro ?_ ?_ | exact trivial))
      all_goals first | exact dd | skip
      all_goals intro h1
      all_goals first | exact absurd h1 (by decide) | (cases h1; done) | skip
      refine c40.use [0] ?_ (by (repeat' (first | exact fp | refine And.intro ?_ ?_))) rfl
      all_goals (repeat' (first | exact aq | refine And.intro ?_ ?_ | exact trivial))
      all_goals first | exact dd | skip
      all_goals intro h2
      all_goals first | exact absurd h2 (by decide) | (cases h2; done) | skip
      (repeat' (first | exact aq | refine And.intro ?_ ?_ | exact trivial))
      all_goals first | exact dd | skip
      refine t13.use [] ?_ trivial rfl
      (repeat' (first | exact aq | refine And.intro ?_ ?_ | exact trivial))
      exact ent_tau [0] ⟨by (repeat' (first | exact fp | refine And.intro ?_ ?_)), by (repeat' (first | exact tm | refine And.intro ?_ ?_)), rfl⟩
    | true =>
      have hv := vb_iff.1 hv
      by_cases h5 : 5 ≤ t.n
      · have d5 : decide (((t.n : Nat) : Int) ≥ 5) = true := decide_eq_true (by omega)
        refine callR (E := E) E_ok Try.func9 rfl ?_
        (repeat' (first | exact aq | refine And.intro ?_ ?_ | exact trivial))
        refine c39.use [0] ?_ (by (repeat' (first | exact fp | refine And.intro ?_ ?_))) rfl
        all_goals (repeat' (first | exact aq | refine And.intro ?_ ?_ | exact trivial))
        all_goals first | exact dd | skip
        all_goals intro h1
        all_goals first | exact absurd h1 (by decide) | (cases h1; done) | skip
        refine c40.use [0] ?_ (by (repeat' (first | exact fp | refine And.intro ?_ ?_))) rfl
        (repeat' (first | exact aq | refine And.intro ?_ ?_ | exact trivial))
        all_goals first | exact dd | skip
        all_goals intro h2
        all_goals first | (exfalso; rw [d5] at h2; exact Bool.noConfusion (show true = false from h2)) | skip
        (repeat' (first | exact aq | refine And.intro ?_ ?_ | exact trivial))
        refine t13.use [] ?_ trivial rfl
        (repeat' (first | exact aq | refine And.intro ?_ ?_ | exact trivial))
        exact ent_tau [0] ⟨by (repeat' (first | exact fp | refine And.intro ?_ ?_)), by (repeat' (first | exact tm | refine And.intro ?_ ?_)), rfl⟩
      · have d5 : decide (((t.n : Nat) : Int) ≥ 5) = false := decide_eq_false (by omega)
        have h4 := hv.1
        obtain ⟨h, hh⟩ : ∃ h : Int, (a.tmod t.huts) = h := ⟨_, rfl⟩
        have hh0 : 0 ≤ h ∧ h ≤ t.huts - 1 := by
          rw [← hh, Int.tmod_eq_emod_of_nonneg ha.1]
          have q1 := Int.emod_nonneg a (show t.huts ≠ 0 by omega)
          have q2 := Int.emod_lt_of_pos a (show 0 < t.huts by omega)
          omega
        obtain ⟨m, hm⟩ : ∃ m : Int, (b.tmod 241) = m := ⟨_, rfl⟩
        have hm0 : 0 ≤ m ∧ m ≤ 240 := by rw [← hm, Int.tmod_eq_emod_of_nonneg hb.1]; omega
        refine callRK (E := E) E_ok 3 Try.func9 rfl ?_
        (repeat' (first | exact aq | refine And.intro ?_ ?_ | exact trivial))
        refine c39.use [0] ?_ (by (repeat' (first | exact fp | refine And.intro ?_ ?_))) rfl
        all_goals (repeat' (first | exact aq | refine And.intro ?_ ?_ | exact trivial))
        all_goals first | exact dd | skip
        all_goals intro h1
        all_goals first | exact absurd h1 (by decide) | (cases h1; done) | skip
        refine c40.use [0] ?_ (by (repeat' (first | exact fp | refine And.intro ?_ ?_))) rfl
        (repeat' (first | exact aq | refine And.intro ?_ ?_ | exact trivial))
        all_goals first | exact dd | skip
        all_goals intro h2
        all_goals first | (exfalso; rw [d5] at h2; exact Bool.noConfusion (show false = true from h2)) | skip
        (repeat' (first | exact aq | refine And.intro ?_ ?_ | exact trivial))
        all_goals first | exact dd | skip
        refine CodeP.pre ?_ (seg9 t hv (by omega) h m hh0 hm0)
        refine ent_tau [0, 1] ⟨by (repeat' (first | exact fp | refine And.intro ?_ ?_)), ?_, rfl⟩
        (repeat' (first | exact tm | refine And.intro ?_ ?_))
        all_goals first | exact congrArg (SV.int .i64) hm | exact congrArg (SV.int .i64) hh
end Go.Proofs.Ytioajogaghgipaa
