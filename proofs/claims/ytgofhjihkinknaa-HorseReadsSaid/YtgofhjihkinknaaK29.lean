/-
  Parts: Qm, Qn, Qo.
-/
import Derived.Test.YtgofhjihkinknaaK28
set_option linter.unusedVariables false
/-
  Contracts of the document's answer: Late, Busy.
-/
namespace Go.Proofs.Ytgofhjihkinknaa
open Go Go.Sy Kuhn
set_option linter.unusedSimpArgs false
set_option maxRecDepth 100000
set_option maxHeartbeats 4000000
attribute [local irreducible] CallP CodeP Ent YieldP
attribute [local irreducible] HD.ch maskO

def K21 (h : HD) (pl : PD) (v c : Bool) : CE → SHeap → Prop := fun ce h' =>
  ((v && c) = false ∧ ce = .ret (.tup [.snil, .int .i64 (errB v c)]) ∧ h' = HD.H h ++ [some (.roa 1 pl.n (PD.F pl))]) ∨
  ((v && c) = true ∧ h.n = 0 ∧ ce = .ret (.tup [.snil, .int .i64 0]) ∧ h' = HD.H h ++ [some (.roa 1 pl.n (PD.F pl))]) ∨
  ((v && c) = true ∧ ∃ k cap, h.n = k + 1 ∧ h.n ≤ cap ∧ cap ≤ 9223372036854775807 ∧ ce = .ret (.tup [.slice 2 2 0 (k + 1) cap, .int .i64 0]) ∧ h' = HD.H h ++ [some (.roa 1 pl.n (PD.F pl)), some (.arr 2 (k + 1) cap (latF h pl))])
theorem app2 (h : HD) (pl : PD) (k : Nat) (x y : Int) (hx : [SV.int .i64 x, SV.int .i64 y] = latF h pl (k + 1)) : ∀ i, i < k + 1 + 1 → selL (decide (i < k + 1)) (latF h pl i) (getOf 2 (splice (repL 1 [SV.int .i64 0, SV.int .i64 0]) (0 * 2) [SV.int .i64 x, SV.int .i64 y]) (0 + (i - (k + 1)))) = latF h pl i := by
  intro i hi
  by_cases c : i < k + 1
  · rw [decide_eq_true c, selL_true]
  · have e : i = k + 1 := by omega
    subst e
    rw [decide_eq_false c, selL_false, Nat.sub_self, ← hx]
    rfl
theorem t21 (h : HD) (pl : PD) (hn : pl.n ≤ 1000000) {v c : Bool} (hv : vb h = v) (hc : pok h pl = c) : CallP Try.prog 21 [HD.A h, .osl pl.b 1 1 pl.n pl.cap] (HD.H h ++ [some (.roa 1 pl.n (PD.F pl))]) (K21 h pl v c) := by
  have c39 := t39 h pl hn
  rw [hc] at c39
  have c52 := t52 h c
  rw [hv] at c52
  by_cases hne : (v && c) = false
  · refine callK (E := E) E_ok Try.func21 rfl ?_
    (repeat' (first | exact trivial | exact fun _ => rfl | exact rfl | refine And.intro ?_ ?_))
    refine drawP E_ok [2] pl21_1 (by kernel_rfl) ?_
    (repeat' (first | exact trivial | exact fun _ => rfl | exact rfl | refine And.intro ?_ ?_))
    refine c39.use [0, 1] ?_ (by (repeat' (first | exact trivial | exact rfl | exact fun _ _ => rfl | exact fun _ _ _ _ => rfl | exact Or.inl rfl | exact Or.inr rfl | refine And.intro ?_ ?_))) rfl
    cases v <;> cases c <;> first | cases hne | skip
    all_goals (repeat' (first | exact trivial | exact fun _ => rfl | exact rfl | refine And.intro ?_ ?_))
    all_goals first | exact True.intro | omega | exact u1 (lt64 (by omega)) | exact u0 (lt64 (by omega)) | (show under _ _; simp [under, gB, wB]; done) | (show under _ _; simp [under, gB, wB]; omega) | skip
    all_goals refine c52.use [0] ?_ (by (repeat' (first | exact trivial | exact rfl | exact fun _ _ => rfl | exact fun _ _ _ _ => rfl | exact Or.inl rfl | exact Or.inr rfl | refine And.intro ?_ ?_))) rfl
    all_goals (repeat' (first | exact trivial | exact fun _ => rfl | exact rfl | refine And.intro ?_ ?_))
    all_goals first | exact True.intro | omega | exact u1 (lt64 (by omega)) | exact u0 (lt64 (by omega)) | (show under _ _; simp [under, gB, wB]; done) | (show under _ _; simp [under, gB, wB]; omega) | skip
    all_goals intro hx
    all_goals first | exact absurd hx (by decide) | skip
    all_goals (repeat' (first | exact trivial | exact fun _ => rfl | exact rfl | refine And.intro ?_ ?_))
    all_goals refine ⟨_, _, .inl ⟨rfl, rfl, rfl⟩, ?_⟩
    all_goals exact ent_tau [0, 1] ⟨by (repeat' (first | exact trivial | exact rfl | exact fun _ _ => rfl | exact fun _ _ _ _ => rfl | exact Or.inl rfl | exact Or.inr rfl | refine And.intro ?_ ?_)), by (repeat' (first | exact trivial | exact rfl | exact congrArg (SV.int .i64) (Int.natCast_succ _).symm | exact congrArg (SV.int .u64) (Int.natCast_succ _).symm | refine And.intro ?_ ?_)), rfl⟩
  · have hall : v = true ∧ c = true := by
      cases v <;> cases c <;> simp at hne ⊢
    obtain ⟨rfl, rfl⟩ := hall
    have hv' := vb_iff.1 hv
    have hn7 := hv'.2.1
    have hpn : pl.n = h.n := by
      unfold pok at hc
      simp only [Bool.and_eq_true, decide_eq_true_eq] at hc
      exact hc.1
    refine callK (E := E) E_ok Try.func21 rfl ?_
    (repeat' (first | exact trivial | exact fun _ => rfl | exact rfl | refine And.intro ?_ ?_))
    refine drawP E_ok [2] pl21_1 (by kernel_rfl) ?_
    (repeat' (first | exact trivial | exact fun _ => rfl | exact rfl | refine And.intro ?_ ?_))
    refine c39.use [0, 1] ?_ (by (repeat' (first | exact trivial | exact rfl | exact fun _ _ => rfl | exact fun _ _ _ _ => rfl | exact Or.inl rfl | exact Or.inr rfl | refine And.intro ?_ ?_))) rfl
    all_goals (repeat' (first | exact trivial | exact fun _ => rfl | exact rfl | refine And.intro ?_ ?_))
    all_goals first | exact True.intro | omega | exact u1 (lt64 (by omega)) | exact u0 (lt64 (by omega)) | (show under _ _; simp [under, gB, wB]; done) | (show under _ _; simp [under, gB, wB]; omega) | skip
    refine c52.use [0] ?_ (by (repeat' (first | exact trivial | exact rfl | exact fun _ _ => rfl | exact fun _ _ _ _ => rfl | exact Or.inl rfl | exact Or.inr rfl | refine And.intro ?_ ?_))) rfl
    all_goals (repeat' (first | exact trivial | exact fun _ => rfl | exact rfl | refine And.intro ?_ ?_))
    all_goals first | exact True.intro | omega | exact u1 (lt64 (by omega)) | exact u0 (lt64 (by omega)) | (show under _ _; simp [under, gB, wB]; done) | (show under _ _; simp [under, gB, wB]; omega) | skip
    all_goals intro hx
    all_goals first | exact absurd hx (by decide) | skip
    (repeat' (first | exact trivial | exact fun _ => rfl | exact rfl | refine And.intro ?_ ?_))
    refine loopP E_ok [1, 2] (fun g : Nat × Nat => match g.1 with | 0 => [(7, .snil), (8, .int .i64 0)] | k + 1 => [(7, .slice 3 2 0 (k + 1) g.2), (8, .int .i64 (k + 1 : Nat))])
      (fun g _ => match g.1 with | 0 => HD.H h ++ [some (.roa 1 pl.n (PD.F pl)), some (.roc (bc h))] | k + 1 => HD.H h ++ [some (.roa 1 pl.n (PD.F pl)), some (.roc (bc h)), some (.arr 2 (k + 1) g.2 (latF h pl))]) (fun g => g.1 ≤ h.n ∧ (0 < g.1 → g.1 ≤ g.2 ∧ g.2 ≤ 9223372036854775807)) (fun g => h.n - g.1) (0, 0) ⟨Nat.zero_le _, fun h => absurd h (Nat.lt_irrefl 0)⟩ ?_ ?_
    · exact ent_tau [0, 1, 2] ⟨by (repeat' (first | exact trivial | exact rfl | exact fun _ _ => rfl | exact fun _ _ _ _ => rfl | exact Or.inl rfl | exact Or.inr rfl | refine And.intro ?_ ?_)), by (repeat' (first | exact trivial | exact rfl | exact congrArg (SV.int .i64) (Int.natCast_succ _).symm | exact congrArg (SV.int .u64) (Int.natCast_succ _).symm | refine And.intro ?_ ?_)), rfl⟩
    rintro ⟨k, cap⟩ ⟨hk, hcap⟩
    simp only at hk hcap
    cases k with
    | zero =>
      refine And.intro ?_ (And.intro (fun hlt => ?_) (fun hlt => ?_))
      · (repeat' (first | exact trivial | exact fun _ => rfl | exact rfl | refine And.intro ?_ ?_))
      · have hlt' : 0 < h.n := by
          have := of_decide_eq_true hlt
          omega
        have b1 := t60 h hv' pl hc false _ 0 (Nat.lt_succ_self _) hlt'
        have b2 := t60 h hv' pl hc true _ 0 (Nat.lt_succ_self _) hlt'
        have r1 := T59_all hv' (pl := pl) (s := false) hlt'
        have r2 := T59_all hv' (pl := pl) (s := true) hlt'
        have mk := (hv'.2.2 0 hlt').1
        have e00 : 0 + Int.toNat 0 = 0 := rfl
        (repeat' (first | exact trivial | exact fun _ => rfl | exact rfl | refine And.intro ?_ ?_))
        refine drawP E_ok [2] pl21_8 (by kernel_rfl) ?_
        (repeat' (first | exact trivial | exact fun _ => rfl | exact rfl | refine And.intro ?_ ?_))
        all_goals first | (first | omega | exact u0 (by omega) | exact u1 (by omega) | exact u1 ⟨by omega, by omega⟩ | exact un (by omega) | exact fun hh => hh | exact fun hh => absurd hh (by decide) | exact fun hh => congrArg not hh | exact fun hh => Bool.noConfusion (show true = false from hh) | exact fun hh => Bool.noConfusion (show false = true from hh)) | exact u0 (by omega) | skip
        refine b1.use [0, 1] ?_ (by (repeat' (first | exact trivial | exact rfl | exact fun _ _ => rfl | exact fun _ _ _ _ => rfl | exact Or.inl rfl | exact Or.inr rfl | refine And.intro ?_ ?_))) rfl
        (repeat' (first | exact trivial | exact fun _ => rfl | exact rfl | refine And.intro ?_ ?_))
        all_goals first | (first | omega | exact u0 (by omega) | exact u1 (by omega) | exact u1 ⟨by omega, by omega⟩ | exact un (by omega) | exact fun hh => hh | exact fun hh => absurd hh (by decide) | exact fun hh => congrArg not hh | exact fun hh => Bool.noConfusion (show true = false from hh) | exact fun hh => Bool.noConfusion (show false = true from hh)) | exact u0 (by omega) | (simp only [e00]; omega) | skip
        refine b2.use [0, 1] ?_ (by (repeat' (first | exact trivial | exact rfl | exact fun _ _ => rfl | exact fun _ _ _ _ => rfl | exact Or.inl rfl | exact Or.inr rfl | refine And.intro ?_ ?_))) rfl
        (repeat' (first | exact trivial | exact fun _ => rfl | exact rfl | refine And.intro ?_ ?_))
        all_goals first | (first | omega | exact u0 (by omega) | exact u1 (by omega) | exact u1 ⟨by omega, by omega⟩ | exact un (by omega) | exact fun hh => hh | exact fun hh => absurd hh (by decide) | exact fun hh => congrArg not hh | exact fun hh => Bool.noConfusion (show true = false from hh) | exact fun hh => Bool.noConfusion (show false = true from hh)) | exact u0 (by omega) | (simp only [e00]; omega) | skip
        · decide
        intro c5 h51 h52
        (repeat' (first | exact trivial | exact fun _ => rfl | exact rfl | refine And.intro ?_ ?_))
        all_goals first | (first | omega | exact u0 (by omega) | exact u1 (by omega) | exact u1 ⟨by omega, by omega⟩ | exact un (by omega) | exact fun hh => hh | exact fun hh => absurd hh (by decide) | exact fun hh => congrArg not hh | exact fun hh => Bool.noConfusion (show true = false from hh) | exact fun hh => Bool.noConfusion (show false = true from hh)) | exact u0 (by omega) | (simp only [e00]; omega) | skip
        refine ⟨(0 + 1, c5), ⟨hlt', fun _ => ⟨h51, h52⟩⟩, by simp only; omega, ?_⟩
        refine ent_tau [0, 1, 2, 4] ⟨?_, by (repeat' (first | exact trivial | exact rfl | exact congrArg (SV.int .i64) (Int.natCast_succ _).symm | exact congrArg (SV.int .u64) (Int.natCast_succ _).symm | refine And.intro ?_ ?_)), rfl⟩
        (repeat' (first | exact trivial | exact rfl | exact fun _ _ => rfl | exact fun _ _ _ _ => rfl | exact Or.inl rfl | exact Or.inr rfl | refine And.intro ?_ ?_))
        exact fun i hi => by
          have h0 : i = 0 := Nat.lt_one_iff.1 hi
          subst h0
          rfl
      · have h0 : h.n = 0 := by
          have := of_decide_eq_false hlt
          omega
        (repeat' (first | exact trivial | exact fun _ => rfl | exact rfl | refine And.intro ?_ ?_))
        refine ⟨_, _, .inr (.inl ⟨rfl, h0, rfl, rfl⟩), ?_⟩
        exact ent_tau [0, 1] ⟨by (repeat' (first | exact trivial | exact rfl | exact fun _ _ => rfl | exact fun _ _ _ _ => rfl | exact Or.inl rfl | exact Or.inr rfl | refine And.intro ?_ ?_)), by (repeat' (first | exact trivial | exact rfl | exact congrArg (SV.int .i64) (Int.natCast_succ _).symm | exact congrArg (SV.int .u64) (Int.natCast_succ _).symm | refine And.intro ?_ ?_)), rfl⟩
    | succ k =>
      refine And.intro ?_ (And.intro (fun hlt => ?_) (fun hlt => ?_))
      · (repeat' (first | exact trivial | exact fun _ => rfl | exact rfl | refine And.intro ?_ ?_))
      · have hlt' : k + 1 < h.n := by
          have := of_decide_eq_true hlt
          omega
        obtain ⟨hc1, hc2⟩ := hcap (by omega)
        have ek := z1 (k + 1)
        have b1 := t60 h hv' pl hc false _ (k + 1) (Nat.lt_succ_self _) hlt'
        have b2 := t60 h hv' pl hc true _ (k + 1) (Nat.lt_succ_self _) hlt'
        have r1 := T59_all hv' (pl := pl) (s := false) hlt'
        have r2 := T59_all hv' (pl := pl) (s := true) hlt'
        have mk := (hv'.2.2 (k + 1) hlt').1
        (repeat' (first | exact trivial | exact fun _ => rfl | exact rfl | refine And.intro ?_ ?_))
        refine drawP E_ok [2] pl21_8 (by kernel_rfl) ?_
        (repeat' (first | exact trivial | exact fun _ => rfl | exact rfl | refine And.intro ?_ ?_))
        all_goals first | (first | omega | exact u0 (by omega) | exact u1 (by omega) | exact u1 ⟨by omega, by omega⟩ | exact un (by omega) | exact fun hh => hh | exact fun hh => absurd hh (by decide) | exact fun hh => congrArg not hh | exact fun hh => Bool.noConfusion (show true = false from hh) | exact fun hh => Bool.noConfusion (show false = true from hh)) | exact u0 (by omega) | skip
        refine b1.use [0, 1] ?_ (by (repeat' (first | exact trivial | exact rfl | exact fun _ _ => rfl | exact fun _ _ _ _ => rfl | exact Or.inl rfl | exact Or.inr rfl | refine And.intro ?_ ?_))) rfl
        (repeat' (first | exact trivial | exact fun _ => rfl | exact rfl | refine And.intro ?_ ?_))
        all_goals first | (first | omega | exact u0 (by omega) | exact u1 (by omega) | exact u1 ⟨by omega, by omega⟩ | exact un (by omega) | exact fun hh => hh | exact fun hh => absurd hh (by decide) | exact fun hh => congrArg not hh | exact fun hh => Bool.noConfusion (show true = false from hh) | exact fun hh => Bool.noConfusion (show false = true from hh)) | exact u0 (by omega) | (rw [ek]; omega) | skip
        refine b2.use [0, 1] ?_ (by (repeat' (first | exact trivial | exact rfl | exact fun _ _ => rfl | exact fun _ _ _ _ => rfl | exact Or.inl rfl | exact Or.inr rfl | refine And.intro ?_ ?_))) rfl
        (repeat' (first | exact trivial | exact fun _ => rfl | exact rfl | refine And.intro ?_ ?_))
        all_goals first | (first | omega | exact u0 (by omega) | exact u1 (by omega) | exact u1 ⟨by omega, by omega⟩ | exact un (by omega) | exact fun hh => hh | exact fun hh => absurd hh (by decide) | exact fun hh => congrArg not hh | exact fun hh => Bool.noConfusion (show true = false from hh) | exact fun hh => Bool.noConfusion (show false = true from hh)) | exact u0 (by omega) | (rw [ek]; omega) | (show _ * 16 ≤ 140737488355328; omega) | exact (fun k hk => by have h0 : k = 0 := Nat.lt_one_iff.1 hk; subst h0; rfl) | skip
        intro c5 h51 h52
        (repeat' (first | exact trivial | exact fun _ => rfl | exact rfl | refine And.intro ?_ ?_))
        all_goals first | (first | omega | exact u0 (by omega) | exact u1 (by omega) | exact u1 ⟨by omega, by omega⟩ | exact un (by omega) | exact fun hh => hh | exact fun hh => absurd hh (by decide) | exact fun hh => congrArg not hh | exact fun hh => Bool.noConfusion (show true = false from hh) | exact fun hh => Bool.noConfusion (show false = true from hh)) | exact u0 (by omega) | (rw [ek]; omega) | skip
        refine ⟨(k + 1 + 1, c5), ⟨hlt', fun _ => ⟨h51, h52⟩⟩, by simp only; omega, ?_⟩
        refine ent_tau [0, 1, 2, 5] ⟨?_, by (repeat' (first | exact trivial | exact rfl | exact congrArg (SV.int .i64) (Int.natCast_succ _).symm | exact congrArg (SV.int .u64) (Int.natCast_succ _).symm | refine And.intro ?_ ?_)), rfl⟩
        (repeat' (first | exact trivial | exact rfl | exact fun _ _ => rfl | exact fun _ _ _ _ => rfl | exact Or.inl rfl | exact Or.inr rfl | refine And.intro ?_ ?_))
        exact app2 h pl k _ _ (by rw [ek]; rfl)
      · have h0 : h.n = k + 1 := by
          have := of_decide_eq_false hlt
          omega
        obtain ⟨hc1, hc2⟩ := hcap (by omega)
        (repeat' (first | exact trivial | exact fun _ => rfl | exact rfl | refine And.intro ?_ ?_))
        refine ⟨_, _, .inr (.inr ⟨rfl, k, cap, h0, by omega, hc2, rfl, rfl⟩), ?_⟩
        exact ent_tau [0, 1, 3] ⟨by (repeat' (first | exact trivial | exact rfl | exact fun _ _ => rfl | exact fun _ _ _ _ => rfl | exact Or.inl rfl | exact Or.inr rfl | refine And.intro ?_ ?_)), by (repeat' (first | exact trivial | exact rfl | exact congrArg (SV.int .i64) (Int.natCast_succ _).symm | exact congrArg (SV.int .u64) (Int.natCast_succ _).symm | refine And.intro ?_ ?_)), rfl⟩
end Go.Proofs.Ytgofhjihkinknaa
/-
  Contracts of the document's answer: Busy; far.
-/
namespace Go.Proofs.Ytgofhjihkinknaa
open Go Go.Sy Kuhn
set_option linter.unusedSimpArgs false
set_option maxRecDepth 100000
set_option maxHeartbeats 4000000
attribute [local irreducible] CallP CodeP Ent YieldP
attribute [local irreducible] HD.ch maskO

theorem t14g (h : HD) (pl : PD) : CallP Try.prog 14 [HD.A h, .osl pl.b 1 1 pl.n pl.cap] (HD.H h ++ [some (.roa 1 pl.n (PD.F pl))]) (Ret (.bool (decide (40 < max h.n pl.n))) (HD.H h ++ [some (.roa 1 pl.n (PD.F pl))])) := by
  refine callR (E := E) E_ok Try.func14 rfl ?_
  (repeat' (first | exact trivial | exact fun _ => rfl | exact rfl | refine And.intro ?_ ?_))
  all_goals first | (first | omega | exact u0 (by omega) | exact u1 (by omega) | exact u1 ⟨by omega, by omega⟩ | exact un (by omega) | exact fun hh => hh | exact fun hh => absurd hh (by decide) | exact fun hh => congrArg not hh | exact fun hh => Bool.noConfusion (show true = false from hh) | exact fun hh => Bool.noConfusion (show false = true from hh)) | skip
  refine ent_tau [0, 1] ⟨by (repeat' (first | exact trivial | exact rfl | exact fun _ _ => rfl | exact fun _ _ _ _ => rfl | exact Or.inl rfl | exact Or.inr rfl | refine And.intro ?_ ?_)), ⟨rfl, ?_, trivial⟩, rfl⟩
  refine congrArg SV.bool ?_
  by_cases c : 40 < max h.n pl.n
  · rw [decide_eq_true c]
    exact decide_eq_true (by split <;> omega)
  · rw [decide_eq_false c]
    exact decide_eq_false (by split <;> omega)
theorem cell2 {a b a' b' : Int} (h1 : a = a') (h2 : b = b') : [SV.int .i64 a, SV.int .i64 b] = [SV.int .i64 a', SV.int .i64 b'] := by rw [h1, h2]
theorem bus_no {h : HD} {m : Int} {v c : Bool} (hv : vb h = v) (hc : inB m 0 220 = c) (hne : (v && c) = false) : HD.bus h m = (0, 0, errB v c) := by
  unfold HD.bus
  cases v with
  | false => rw [if_neg fun hv' => Bool.noConfusion ((vb_yes hv').symm.trans hv)]; rfl
  | true =>
    cases c with
    | true => cases hne
    | false => rw [if_pos (vb_iff.1 hv), hc]; rfl
theorem t23 (h : HD) (m : Int) : CallP Try.prog 23 [HD.A h, .int .i64 m] (HD.H h) (Ret (.tup [.agg [.int .i64 (HD.bus h m).1, .int .i64 (HD.bus h m).2.1], .int .i64 (HD.bus h m).2.2]) (HD.H h)) := by
  obtain ⟨v, hv⟩ : ∃ v, vb h = v := ⟨_, rfl⟩
  obtain ⟨c, hc⟩ : ∃ v, inB m 0 220 = v := ⟨_, rfl⟩
  have c64 := t64 m 0 220
  rw [hc] at c64
  have c52 := t52 h c
  rw [hv] at c52
  by_cases hne : (v && c) = false
  · rw [bus_no hv hc hne]
    refine callR (E := E) E_ok Try.func23 rfl ?_
    (repeat' (first | exact trivial | exact fun _ => rfl | exact rfl | refine And.intro ?_ ?_))
    refine drawP E_ok [1] pl23_1 (by kernel_rfl) ?_
    (repeat' (first | exact trivial | exact fun _ => rfl | exact rfl | refine And.intro ?_ ?_))
    refine c64.use [] ?_ trivial rfl
    cases v <;> cases c <;> first | cases hne | skip
    all_goals (repeat' (first | exact trivial | exact fun _ => rfl | exact rfl | refine And.intro ?_ ?_))
    all_goals first | exact True.intro | omega | exact u1 (lt64 (by omega)) | exact u0 (lt64 (by omega)) | (show under _ _; simp [under, gB, wB]; done) | (show under _ _; simp [under, gB, wB]; omega) | skip
    all_goals refine c52.use [0] ?_ (by (repeat' (first | exact trivial | exact rfl | exact fun _ _ => rfl | exact fun _ _ _ _ => rfl | exact Or.inl rfl | exact Or.inr rfl | refine And.intro ?_ ?_))) rfl
    all_goals (repeat' (first | exact trivial | exact fun _ => rfl | exact rfl | refine And.intro ?_ ?_))
    all_goals first | exact True.intro | omega | exact u1 (lt64 (by omega)) | exact u0 (lt64 (by omega)) | (show under _ _; simp [under, gB, wB]; done) | (show under _ _; simp [under, gB, wB]; omega) | skip
    all_goals intro hx
    all_goals first | exact absurd hx (by decide) | skip
    all_goals (repeat' (first | exact trivial | exact fun _ => rfl | exact rfl | refine And.intro ?_ ?_))
    all_goals exact ent_tau [0] ⟨by (repeat' (first | exact trivial | exact rfl | exact fun _ _ => rfl | exact fun _ _ _ _ => rfl | exact Or.inl rfl | exact Or.inr rfl | refine And.intro ?_ ?_)), by (repeat' (first | exact trivial | exact rfl | exact congrArg (SV.int .i64) (Int.natCast_succ _).symm | exact congrArg (SV.int .u64) (Int.natCast_succ _).symm | refine And.intro ?_ ?_)), rfl⟩
  · have hall : v = true ∧ c = true := by
      cases v <;> cases c <;> simp at hne ⊢
    obtain ⟨rfl, rfl⟩ := hall
    have hv' := vb_iff.1 hv
    have hn7 := hv'.2.1
    have hm := inB_iff.1 hc
    have eb : HD.bus h m = (bz h false m h.n, bz h true m h.n, 0) := by
      unfold HD.bus
      rw [if_pos hv', if_pos hc]
    rw [eb]
    refine callR (E := E) E_ok Try.func23 rfl ?_
    (repeat' (first | exact trivial | exact fun _ => rfl | exact rfl | refine And.intro ?_ ?_))
    refine drawP E_ok [1] pl23_1 (by kernel_rfl) ?_
    (repeat' (first | exact trivial | exact fun _ => rfl | exact rfl | refine And.intro ?_ ?_))
    refine c64.use [] ?_ trivial rfl
    all_goals (repeat' (first | exact trivial | exact fun _ => rfl | exact rfl | refine And.intro ?_ ?_))
    all_goals first | exact True.intro | omega | exact u1 (lt64 (by omega)) | exact u0 (lt64 (by omega)) | (show under _ _; simp [under, gB, wB]; done) | (show under _ _; simp [under, gB, wB]; omega) | skip
    refine c52.use [0] ?_ (by (repeat' (first | exact trivial | exact rfl | exact fun _ _ => rfl | exact fun _ _ _ _ => rfl | exact Or.inl rfl | exact Or.inr rfl | refine And.intro ?_ ?_))) rfl
    all_goals (repeat' (first | exact trivial | exact fun _ => rfl | exact rfl | refine And.intro ?_ ?_))
    all_goals first | exact True.intro | omega | exact u1 (lt64 (by omega)) | exact u0 (lt64 (by omega)) | (show under _ _; simp [under, gB, wB]; done) | (show under _ _; simp [under, gB, wB]; omega) | skip
    all_goals intro hx
    all_goals first | exact absurd hx (by decide) | skip
    (repeat' (first | exact trivial | exact fun _ => rfl | exact rfl | refine And.intro ?_ ?_))
    refine loopP E_ok [1, 2, 4, 7] (fun i : Nat => [(8, .int .i64 i)]) (fun i _ => HD.H h ++ [some (.roc (bc h)), some (.cells [.int .i64 0, .int .i64 0]), some (.cells [.int .i64 (bz h false m i), .int .i64 (bz h true m i)])]) (fun i => i ≤ h.n) (fun i => h.n - i) 0 (Nat.zero_le _) ?_ ?_
    · exact ent_tau [0, 1, 2, 3] ⟨by (repeat' (first | exact trivial | exact rfl | exact fun _ _ => rfl | exact fun _ _ _ _ => rfl | exact Or.inl rfl | exact Or.inr rfl | refine And.intro ?_ ?_)), by (repeat' (first | exact trivial | exact rfl | exact congrArg (SV.int .i64) (Int.natCast_succ _).symm | exact congrArg (SV.int .u64) (Int.natCast_succ _).symm | refine And.intro ?_ ?_)), rfl⟩
    rintro i hi
    refine And.intro ?_ (And.intro (fun hlt => ?_) (fun hlt => ?_))
    · (repeat' (first | exact trivial | exact fun _ => rfl | exact rfl | refine And.intro ?_ ?_))
    · have hlt' : i < h.n := by
        have := of_decide_eq_true hlt
        omega
      have ei := z1 i
      have mk := hv'.2.2 i hlt'
      unfold HD.okMv at mk
      have z0 := bz_le h false m i
      have z1' := bz_le h true m i
      obtain ⟨b1, hb1⟩ : ∃ b, inB m (h.at' (0 + ((i : Nat) : Int).toNat)) (h.at' (0 + ((i : Nat) : Int).toNat) + h.lo (0 + ((i : Nat) : Int).toNat) - 1) = b := ⟨_, rfl⟩
      obtain ⟨b2, hb2⟩ : ∃ b, inB m (h.at' (0 + ((i : Nat) : Int).toNat)) (h.at' (0 + ((i : Nat) : Int).toNat) + h.hi (0 + ((i : Nat) : Int).toNat) - 1) = b := ⟨_, rfl⟩
      have d1 := t64 m (h.at' (0 + ((i : Nat) : Int).toNat)) (h.at' (0 + ((i : Nat) : Int).toNat) + h.lo (0 + ((i : Nat) : Int).toNat) - 1)
      have d2 := t64 m (h.at' (0 + ((i : Nat) : Int).toNat)) (h.at' (0 + ((i : Nat) : Int).toNat) + h.hi (0 + ((i : Nat) : Int).toNat) - 1)
      rw [hb1] at d1
      rw [hb2] at d2
      rw [ei] at hb1 hb2
      have s1 : bz h false m (i + 1) = bz h false m i + if h.at' i ≤ m ∧ m < h.at' i + h.lo i then 1 else 0 := rfl
      have s2 : bz h true m (i + 1) = bz h true m i + if h.at' i ≤ m ∧ m < h.at' i + h.hi i then 1 else 0 := rfl
      have q1 : (h.at' i ≤ m ∧ m < h.at' i + h.lo i) ↔ b1 = true := by rw [← hb1, inB_iff]; omega
      have q2 : (h.at' i ≤ m ∧ m < h.at' i + h.hi i) ↔ b2 = true := by rw [← hb2, inB_iff]; omega
      (repeat' (first | exact trivial | exact fun _ => rfl | exact rfl | refine And.intro ?_ ?_))
      all_goals first | (first | omega | exact u0 (by omega) | exact u1 (by omega) | exact u1 ⟨by omega, by omega⟩ | exact un (by omega) | exact fun hh => hh | exact fun hh => absurd hh (by decide) | exact fun hh => congrArg not hh | exact fun hh => Bool.noConfusion (show true = false from hh) | exact fun hh => Bool.noConfusion (show false = true from hh)) | exact u0 (by omega) | (rw [ei]; omega) | skip
      refine d1.use [] ?_ trivial rfl
      clear d1
      cases b1
      · rw [if_neg (fun q => Bool.noConfusion (q1.1 q))] at s1
        all_goals (repeat' (first | exact trivial | exact fun _ => rfl | exact rfl | refine And.intro ?_ ?_))
        all_goals first | exact True.intro | omega | exact u1 (lt64 (by omega)) | exact u0 (lt64 (by omega)) | (show under _ _; simp [under, gB, wB]; done) | (show under _ _; simp [under, gB, wB]; omega) | skip
        all_goals intro hx
        all_goals first | exact absurd hx (by decide) | skip
        (repeat' (first | exact trivial | exact fun _ => rfl | exact rfl | refine And.intro ?_ ?_))
        all_goals first | (first | omega | exact u0 (by omega) | exact u1 (by omega) | exact u1 ⟨by omega, by omega⟩ | exact un (by omega) | exact fun hh => hh | exact fun hh => absurd hh (by decide) | exact fun hh => congrArg not hh | exact fun hh => Bool.noConfusion (show true = false from hh) | exact fun hh => Bool.noConfusion (show false = true from hh)) | exact u0 (by omega) | (rw [ei]; omega) | skip
        refine d2.use [] ?_ trivial rfl
        clear d2
        cases b2
        · rw [if_neg (fun q => Bool.noConfusion (q2.1 q))] at s2
          have f1 : bz h false m (i + 1) = bz h false m i := by omega
          have f2 : bz h true m (i + 1) = bz h true m i := by omega
          all_goals (repeat' (first | exact trivial | exact fun _ => rfl | exact rfl | refine And.intro ?_ ?_))
          all_goals first | exact True.intro | omega | exact u1 (lt64 (by omega)) | exact u0 (lt64 (by omega)) | (show under _ _; simp [under, gB, wB]; done) | (show under _ _; simp [under, gB, wB]; omega) | skip
          all_goals intro hy
          all_goals first | exact absurd hy (by decide) | skip
          (repeat' (first | exact trivial | exact fun _ => rfl | exact rfl | refine And.intro ?_ ?_))
          all_goals first | (first | omega | exact u0 (by omega) | exact u1 (by omega) | exact u1 ⟨by omega, by omega⟩ | exact un (by omega) | exact fun hh => hh | exact fun hh => absurd hh (by decide) | exact fun hh => congrArg not hh | exact fun hh => Bool.noConfusion (show true = false from hh) | exact fun hh => Bool.noConfusion (show false = true from hh)) | exact u0 (by omega) | (rw [ei]; omega) | skip
          refine ⟨i + 1, hlt', by omega, ?_⟩
          refine ent_tau [0, 1, 2, 3] ⟨?_, by (repeat' (first | exact trivial | exact rfl | exact congrArg (SV.int .i64) (Int.natCast_succ _).symm | exact congrArg (SV.int .u64) (Int.natCast_succ _).symm | refine And.intro ?_ ?_)), rfl⟩
          (repeat' (first | exact trivial | exact rfl | exact fun _ _ => rfl | exact fun _ _ _ _ => rfl | exact Or.inl rfl | exact Or.inr rfl | refine And.intro ?_ ?_))
          exact cell2 f1.symm f2.symm
        · rw [if_pos (q2.2 rfl)] at s2
          have f1 : bz h false m (i + 1) = bz h false m i := by omega
          have f2 : bz h true m (i + 1) = bz h true m i + 1 := by omega
          all_goals (repeat' (first | exact trivial | exact fun _ => rfl | exact rfl | refine And.intro ?_ ?_))
          all_goals first | exact True.intro | omega | exact u1 (lt64 (by omega)) | exact u0 (lt64 (by omega)) | (show under _ _; simp [under, gB, wB]; done) | (show under _ _; simp [under, gB, wB]; omega) | skip
          all_goals intro hy
          all_goals first | exact absurd hy (by decide) | skip
          (repeat' (first | exact trivial | exact fun _ => rfl | exact rfl | refine And.intro ?_ ?_))
          all_goals first | (first | omega | exact u0 (by omega) | exact u1 (by omega) | exact u1 ⟨by omega, by omega⟩ | exact un (by omega) | exact fun hh => hh | exact fun hh => absurd hh (by decide) | exact fun hh => congrArg not hh | exact fun hh => Bool.noConfusion (show true = false from hh) | exact fun hh => Bool.noConfusion (show false = true from hh)) | exact u0 (by omega) | (rw [ei]; omega) | skip
          refine ⟨i + 1, hlt', by omega, ?_⟩
          refine ent_tau [0, 1, 2, 3] ⟨?_, by (repeat' (first | exact trivial | exact rfl | exact congrArg (SV.int .i64) (Int.natCast_succ _).symm | exact congrArg (SV.int .u64) (Int.natCast_succ _).symm | refine And.intro ?_ ?_)), rfl⟩
          (repeat' (first | exact trivial | exact rfl | exact fun _ _ => rfl | exact fun _ _ _ _ => rfl | exact Or.inl rfl | exact Or.inr rfl | refine And.intro ?_ ?_))
          exact cell2 f1.symm f2.symm
      · rw [if_pos (q1.2 rfl)] at s1
        all_goals (repeat' (first | exact trivial | exact fun _ => rfl | exact rfl | refine And.intro ?_ ?_))
        all_goals first | exact True.intro | omega | exact u1 (lt64 (by omega)) | exact u0 (lt64 (by omega)) | (show under _ _; simp [under, gB, wB]; done) | (show under _ _; simp [under, gB, wB]; omega) | skip
        all_goals intro hx
        all_goals first | exact absurd hx (by decide) | skip
        (repeat' (first | exact trivial | exact fun _ => rfl | exact rfl | refine And.intro ?_ ?_))
        all_goals first | (first | omega | exact u0 (by omega) | exact u1 (by omega) | exact u1 ⟨by omega, by omega⟩ | exact un (by omega) | exact fun hh => hh | exact fun hh => absurd hh (by decide) | exact fun hh => congrArg not hh | exact fun hh => Bool.noConfusion (show true = false from hh) | exact fun hh => Bool.noConfusion (show false = true from hh)) | exact u0 (by omega) | (rw [ei]; omega) | skip
        refine d2.use [] ?_ trivial rfl
        clear d2
        cases b2
        · rw [if_neg (fun q => Bool.noConfusion (q2.1 q))] at s2
          have f1 : bz h false m (i + 1) = bz h false m i + 1 := by omega
          have f2 : bz h true m (i + 1) = bz h true m i := by omega
          all_goals (repeat' (first | exact trivial | exact fun _ => rfl | exact rfl | refine And.intro ?_ ?_))
          all_goals first | exact True.intro | omega | exact u1 (lt64 (by omega)) | exact u0 (lt64 (by omega)) | (show under _ _; simp [under, gB, wB]; done) | (show under _ _; simp [under, gB, wB]; omega) | skip
          all_goals intro hy
          all_goals first | exact absurd hy (by decide) | skip
          (repeat' (first | exact trivial | exact fun _ => rfl | exact rfl | refine And.intro ?_ ?_))
          all_goals first | (first | omega | exact u0 (by omega) | exact u1 (by omega) | exact u1 ⟨by omega, by omega⟩ | exact un (by omega) | exact fun hh => hh | exact fun hh => absurd hh (by decide) | exact fun hh => congrArg not hh | exact fun hh => Bool.noConfusion (show true = false from hh) | exact fun hh => Bool.noConfusion (show false = true from hh)) | exact u0 (by omega) | (rw [ei]; omega) | skip
          refine ⟨i + 1, hlt', by omega, ?_⟩
          refine ent_tau [0, 1, 2, 3] ⟨?_, by (repeat' (first | exact trivial | exact rfl | exact congrArg (SV.int .i64) (Int.natCast_succ _).symm | exact congrArg (SV.int .u64) (Int.natCast_succ _).symm | refine And.intro ?_ ?_)), rfl⟩
          (repeat' (first | exact trivial | exact rfl | exact fun _ _ => rfl | exact fun _ _ _ _ => rfl | exact Or.inl rfl | exact Or.inr rfl | refine And.intro ?_ ?_))
          exact cell2 f1.symm f2.symm
        · rw [if_pos (q2.2 rfl)] at s2
          have f1 : bz h false m (i + 1) = bz h false m i + 1 := by omega
          have f2 : bz h true m (i + 1) = bz h true m i + 1 := by omega
          all_goals (repeat' (first | exact trivial | exact fun _ => rfl | exact rfl | refine And.intro ?_ ?_))
          all_goals first | exact True.intro | omega | exact u1 (lt64 (by omega)) | exact u0 (lt64 (by omega)) | (show under _ _; simp [under, gB, wB]; done) | (show under _ _; simp [under, gB, wB]; omega) | skip
          all_goals intro hy
          all_goals first | exact absurd hy (by decide) | skip
          (repeat' (first | exact trivial | exact fun _ => rfl | exact rfl | refine And.intro ?_ ?_))
          all_goals first | (first | omega | exact u0 (by omega) | exact u1 (by omega) | exact u1 ⟨by omega, by omega⟩ | exact un (by omega) | exact fun hh => hh | exact fun hh => absurd hh (by decide) | exact fun hh => congrArg not hh | exact fun hh => Bool.noConfusion (show true = false from hh) | exact fun hh => Bool.noConfusion (show false = true from hh)) | exact u0 (by omega) | (rw [ei]; omega) | skip
          refine ⟨i + 1, hlt', by omega, ?_⟩
          refine ent_tau [0, 1, 2, 3] ⟨?_, by (repeat' (first | exact trivial | exact rfl | exact congrArg (SV.int .i64) (Int.natCast_succ _).symm | exact congrArg (SV.int .u64) (Int.natCast_succ _).symm | refine And.intro ?_ ?_)), rfl⟩
          (repeat' (first | exact trivial | exact rfl | exact fun _ _ => rfl | exact fun _ _ _ _ => rfl | exact Or.inl rfl | exact Or.inr rfl | refine And.intro ?_ ?_))
          exact cell2 f1.symm f2.symm
    · have e : i = h.n := by
        have := of_decide_eq_false hlt
        omega
      subst e
      (repeat' (first | exact trivial | exact fun _ => rfl | exact rfl | refine And.intro ?_ ?_))
      all_goals first | exact True.intro | omega | exact u1 (lt64 (by omega)) | exact u0 (lt64 (by omega)) | (show under _ _; simp [under, gB, wB]; done) | (show under _ _; simp [under, gB, wB]; omega) | skip
      exact ent_tau [0] ⟨by (repeat' (first | exact trivial | exact rfl | exact fun _ _ => rfl | exact fun _ _ _ _ => rfl | exact Or.inl rfl | exact Or.inr rfl | refine And.intro ?_ ?_)), by (repeat' (first | exact trivial | exact rfl | exact congrArg (SV.int .i64) (Int.natCast_succ _).symm | exact congrArg (SV.int .u64) (Int.natCast_succ _).symm | refine And.intro ?_ ?_)), rfl⟩
end Go.Proofs.Ytgofhjihkinknaa
/-
  HorseReads.
-/
namespace Go.Proofs.Ytgofhjihkinknaa
open Go Go.Sy Kuhn
set_option linter.unusedSimpArgs false
set_option maxRecDepth 100000
set_option maxHeartbeats 4000000
attribute [local irreducible] CallP CodeP Ent YieldP
attribute [local irreducible] HD.ch maskO

theorem t3 (h : HD) (pl : PD) (a b m : Int) (s : Bool) : CallP Try.prog 3 [HD.A h, .osl pl.b 1 1 pl.n pl.cap, .int .i64 a, .int .i64 b, .int .i64 m, .bool s] (HD.H h ++ [some (.roa 1 pl.n (PD.F pl))]) (Ret (.bool true) (HD.H h ++ [some (.roa 1 pl.n (PD.F pl))])) := by
  obtain ⟨f, hf⟩ : ∃ f, decide (40 < max h.n pl.n) = f := ⟨_, rfl⟩
  have c14 := t14g h pl
  rw [hf] at c14
  refine callR (E := E) E_ok Try.func3 rfl ?_
  (repeat' (first | exact trivial | exact fun _ => rfl | exact rfl | refine And.intro ?_ ?_))
  refine c14.use [0, 1] ?_ (by (repeat' (first | exact trivial | exact rfl | exact fun _ _ => rfl | exact fun _ _ _ _ => rfl | exact Or.inl rfl | exact Or.inr rfl | refine And.intro ?_ ?_))) rfl
  cases f with
  | true =>
    all_goals (repeat' (first | exact trivial | exact fun _ => rfl | exact rfl | refine And.intro ?_ ?_))
    all_goals first | exact True.intro | omega | exact u1 (lt64 (by omega)) | exact u0 (lt64 (by omega)) | (show under _ _; simp [under, gB, wB]; done) | (show under _ _; simp [under, gB, wB]; omega) | skip
    all_goals intro hx
    all_goals first | exact absurd hx (by decide) | skip
    (repeat' (first | exact trivial | exact fun _ => rfl | exact rfl | refine And.intro ?_ ?_))
    refine t15.use [] ?_ trivial rfl
    (repeat' (first | exact trivial | exact fun _ => rfl | exact rfl | refine And.intro ?_ ?_))
    all_goals first | exact True.intro | omega | exact u1 (lt64 (by omega)) | exact u0 (lt64 (by omega)) | (show under _ _; simp [under, gB, wB]; done) | (show under _ _; simp [under, gB, wB]; omega) | skip
    exact ent_tau [0, 1] ⟨by (repeat' (first | exact trivial | exact rfl | exact fun _ _ => rfl | exact fun _ _ _ _ => rfl | exact Or.inl rfl | exact Or.inr rfl | refine And.intro ?_ ?_)), by (repeat' (first | exact trivial | exact rfl | exact congrArg (SV.int .i64) (Int.natCast_succ _).symm | exact congrArg (SV.int .u64) (Int.natCast_succ _).symm | refine And.intro ?_ ?_)), rfl⟩
  | false =>
    have hs := of_decide_eq_false hf
    have hn : pl.n ≤ 1000000 := by omega
    have hhn : h.n ≤ 1000000 := by omega
    obtain ⟨v, hv⟩ : ∃ v, vb h = v := ⟨_, rfl⟩
    obtain ⟨c, hc⟩ : ∃ v, pok h pl = v := ⟨_, rfl⟩
    have c16 := t16 h a b
    have c17 := t17 h hhn a b
    have c18 := t18 h pl hn s
    have c19 := t19 h pl hn s
    have c21 := t21 h pl hn hv hc
    have c22 := t22 h m
    have c23 := t23 h m
    obtain ⟨p1, e1⟩ : ∃ p, HD.fol h a b = p := ⟨_, rfl⟩
    obtain ⟨p2, e2⟩ : ∃ p, HD.chk h s pl = p := ⟨_, rfl⟩
    obtain ⟨p3, e3⟩ : ∃ p, HD.bus h m = p := ⟨_, rfl⟩
    rw [e1] at c16 c17
    rw [e2] at c18 c19
    rw [e3] at c22 c23
    all_goals (repeat' (first | exact trivial | exact fun _ => rfl | exact rfl | refine And.intro ?_ ?_))
    all_goals first | exact True.intro | omega | exact u1 (lt64 (by omega)) | exact u0 (lt64 (by omega)) | (show under _ _; simp [under, gB, wB]; done) | (show under _ _; simp [under, gB, wB]; omega) | skip
    all_goals intro hx
    all_goals first | exact absurd hx (by decide) | skip
    (repeat' (first | exact trivial | exact fun _ => rfl | exact rfl | refine And.intro ?_ ?_))
    refine c16.use [0] ?_ (by (repeat' (first | exact trivial | exact rfl | exact fun _ _ => rfl | exact fun _ _ _ _ => rfl | exact Or.inl rfl | exact Or.inr rfl | refine And.intro ?_ ?_))) rfl
    (repeat' (first | exact trivial | exact fun _ => rfl | exact rfl | refine And.intro ?_ ?_))
    refine c17.use [0] ?_ (by (repeat' (first | exact trivial | exact rfl | exact fun _ _ => rfl | exact fun _ _ _ _ => rfl | exact Or.inl rfl | exact Or.inr rfl | refine And.intro ?_ ?_))) rfl
    (repeat' (first | exact trivial | exact fun _ => rfl | exact rfl | refine And.intro ?_ ?_))
    refine c18.use [0, 1] ?_ (by (repeat' (first | exact trivial | exact rfl | exact fun _ _ => rfl | exact fun _ _ _ _ => rfl | exact Or.inl rfl | exact Or.inr rfl | refine And.intro ?_ ?_))) rfl
    (repeat' (first | exact trivial | exact fun _ => rfl | exact rfl | refine And.intro ?_ ?_))
    refine c19.use [0, 1] ?_ (by (repeat' (first | exact trivial | exact rfl | exact fun _ _ => rfl | exact fun _ _ _ _ => rfl | exact Or.inl rfl | exact Or.inr rfl | refine And.intro ?_ ?_))) rfl
    (repeat' (first | exact trivial | exact fun _ => rfl | exact rfl | refine And.intro ?_ ?_))
    by_cases hne : (v && c) = false
    · have c20 := t20 h pl hn (.tup [.snil, .int .i64 (errB v c)]) (HD.H h ++ [some (.roa 1 pl.n (PD.F pl))]) (by
        cases v with
        | false => exact .inr (.inl ⟨fun hv' => Bool.noConfusion ((vb_yes hv').symm.trans hv), rfl, rfl⟩)
        | true =>
          cases c with
          | true => cases hne
          | false => exact .inr (.inr ⟨vb_iff.1 hv, hc, rfl, rfl⟩))
      refine c20.use [0, 1] ?_ (by (repeat' (first | exact trivial | exact rfl | exact fun _ _ => rfl | exact fun _ _ _ _ => rfl | exact Or.inl rfl | exact Or.inr rfl | refine And.intro ?_ ?_))) rfl
      (repeat' (first | exact trivial | exact fun _ => rfl | exact rfl | refine And.intro ?_ ?_))
      refine CallP.frameH c21 [0, 1] (by (repeat' (first | exact trivial | exact rfl | exact fun _ _ => rfl | exact fun _ _ _ _ => rfl | exact Or.inl rfl | exact Or.inr rfl | refine And.intro ?_ ?_))) rfl ?_
      rintro ce h' (⟨_, rfl, rfl⟩ | ⟨q, _⟩ | ⟨q, _⟩)
      rotate_left
      · rw [hne] at q
        cases q
      · rw [hne] at q
        cases q
      refine ⟨rfl, ?_⟩
      clear c16 c17 c18 c19 c20 c21
      obtain ⟨er, he⟩ : ∃ e, errB v c = e := ⟨_, rfl⟩
      (repeat' (first | exact trivial | exact fun _ => rfl | exact rfl | refine And.intro ?_ ?_))
      refine c22.use [0] ?_ (by (repeat' (first | exact trivial | exact rfl | exact fun _ _ => rfl | exact fun _ _ _ _ => rfl | exact Or.inl rfl | exact Or.inr rfl | refine And.intro ?_ ?_))) rfl
      (repeat' (first | exact trivial | exact fun _ => rfl | exact rfl | refine And.intro ?_ ?_))
      refine c23.use [0] ?_ (by (repeat' (first | exact trivial | exact rfl | exact fun _ _ => rfl | exact fun _ _ _ _ => rfl | exact Or.inl rfl | exact Or.inr rfl | refine And.intro ?_ ?_))) rfl
      (repeat' (first | exact trivial | exact fun _ => rfl | exact rfl | refine And.intro ?_ ?_))
      all_goals first | exact True.intro | omega | exact u1 (lt64 (by omega)) | exact u0 (lt64 (by omega)) | (show under _ _; simp [under, gB, wB]; done) | (show under _ _; simp [under, gB, wB]; omega) | skip
      all_goals intro hg
      all_goals first | (exfalso; revert hg; simp [gB, wB]; done) | skip
      refine t24nn.use [] ?_ trivial rfl
      (repeat' (first | exact trivial | exact fun _ => rfl | exact rfl | refine And.intro ?_ ?_))
      all_goals first | exact True.intro | omega | exact u1 (lt64 (by omega)) | exact u0 (lt64 (by omega)) | (show under _ _; simp [under, gB, wB]; done) | (show under _ _; simp [under, gB, wB]; omega) | skip
      all_goals intro hg
      all_goals first | (exfalso; revert hg; simp [gB, wB]; done) | skip
      refine t15.use [] ?_ trivial rfl
      (repeat' (first | exact trivial | exact fun _ => rfl | exact rfl | refine And.intro ?_ ?_))
      all_goals first | exact True.intro | omega | exact u1 (lt64 (by omega)) | exact u0 (lt64 (by omega)) | (show under _ _; simp [under, gB, wB]; done) | (show under _ _; simp [under, gB, wB]; omega) | skip
      refine ent_tau [0, 1] ⟨by (repeat' (first | exact trivial | exact rfl | exact fun _ _ => rfl | exact fun _ _ _ _ => rfl | exact Or.inl rfl | exact Or.inr rfl | refine And.intro ?_ ?_)), ⟨rfl, ?_, trivial⟩, rfl⟩
      exact congrArg SV.bool (by simp)
    · have hall : v = true ∧ c = true := by
        cases v <;> cases c <;> simp at hne ⊢
      obtain ⟨rfl, rfl⟩ := hall
      have c20 := t20 h pl hn _ _ (.inl ⟨vb_iff.1 hv, hc, rfl, rfl⟩)
      refine c20.use [0, 1] ?_ (by (repeat' (first | exact trivial | exact rfl | exact fun _ _ => rfl | exact fun _ _ _ _ => rfl | exact Or.inl rfl | exact Or.inr rfl | refine And.intro ?_ ?_))) rfl
      (repeat' (first | exact trivial | exact fun _ => rfl | exact rfl | refine And.intro ?_ ?_))
      refine CallP.frameH c21 [0, 1] (by (repeat' (first | exact trivial | exact rfl | exact fun _ _ => rfl | exact fun _ _ _ _ => rfl | exact Or.inl rfl | exact Or.inr rfl | refine And.intro ?_ ?_))) rfl ?_
      rintro ce h' (⟨q, _⟩ | ⟨_, h0, rfl, rfl⟩ | ⟨_, k, cap, h0, hc1, hc2, rfl, rfl⟩)
      · cases q
      · have c24 := t24n h.n h.n (fun k => T59 h pl false k - h.at' k) (fun k => T59 h pl true k - h.at' k)
        rw [decide_eq_true h0] at c24
        refine ⟨rfl, ?_⟩
        clear c16 c17 c18 c19 c20 c21
        (repeat' (first | exact trivial | exact fun _ => rfl | exact rfl | refine And.intro ?_ ?_))
        refine c22.use [0] ?_ (by (repeat' (first | exact trivial | exact rfl | exact fun _ _ => rfl | exact fun _ _ _ _ => rfl | exact Or.inl rfl | exact Or.inr rfl | refine And.intro ?_ ?_))) rfl
        (repeat' (first | exact trivial | exact fun _ => rfl | exact rfl | refine And.intro ?_ ?_))
        refine c23.use [0] ?_ (by (repeat' (first | exact trivial | exact rfl | exact fun _ _ => rfl | exact fun _ _ _ _ => rfl | exact Or.inl rfl | exact Or.inr rfl | refine And.intro ?_ ?_))) rfl
        (repeat' (first | exact trivial | exact fun _ => rfl | exact rfl | refine And.intro ?_ ?_))
        all_goals first | exact True.intro | omega | exact u1 (lt64 (by omega)) | exact u0 (lt64 (by omega)) | (show under _ _; simp [under, gB, wB]; done) | (show under _ _; simp [under, gB, wB]; omega) | skip
        all_goals intro hg
        all_goals first | (exfalso; revert hg; simp [gB, wB]; done) | skip
        refine c24.use [3] ?_ (by (repeat' (first | exact trivial | exact rfl | exact fun _ _ => rfl | exact fun _ _ _ _ => rfl | exact Or.inl rfl | exact Or.inr rfl | refine And.intro ?_ ?_))) rfl
        (repeat' (first | exact trivial | exact fun _ => rfl | exact rfl | refine And.intro ?_ ?_))
        all_goals first | exact True.intro | omega | exact u1 (lt64 (by omega)) | exact u0 (lt64 (by omega)) | (show under _ _; simp [under, gB, wB]; done) | (show under _ _; simp [under, gB, wB]; omega) | skip
        all_goals intro hg
        all_goals first | (exfalso; revert hg; simp [gB, wB]; done) | skip
        refine t15.use [] ?_ trivial rfl
        (repeat' (first | exact trivial | exact fun _ => rfl | exact rfl | refine And.intro ?_ ?_))
        all_goals first | exact True.intro | omega | exact u1 (lt64 (by omega)) | exact u0 (lt64 (by omega)) | (show under _ _; simp [under, gB, wB]; done) | (show under _ _; simp [under, gB, wB]; omega) | skip
        refine ent_tau [0, 1] ⟨by (repeat' (first | exact trivial | exact rfl | exact fun _ _ => rfl | exact fun _ _ _ _ => rfl | exact Or.inl rfl | exact Or.inr rfl | refine And.intro ?_ ?_)), ⟨rfl, ?_, trivial⟩, rfl⟩
        exact congrArg SV.bool (by simp)
      · have c24 := t24 h.n (k + 1) h.n cap (fun k => T59 h pl false k - h.at' k) (fun k => T59 h pl true k - h.at' k) (fun k => T59 h pl false k - h.at' k) (fun k => T59 h pl true k - h.at' k) hhn (by omega)
        rw [decide_eq_true h0, eqN_iff.2 fun _ _ => rfl, eqN_iff.2 fun _ _ => rfl] at c24
        refine ⟨rfl, ?_⟩
        clear c16 c17 c18 c19 c20 c21
        (repeat' (first | exact trivial | exact fun _ => rfl | exact rfl | refine And.intro ?_ ?_))
        refine c22.use [0] ?_ (by (repeat' (first | exact trivial | exact rfl | exact fun _ _ => rfl | exact fun _ _ _ _ => rfl | exact Or.inl rfl | exact Or.inr rfl | refine And.intro ?_ ?_))) rfl
        (repeat' (first | exact trivial | exact fun _ => rfl | exact rfl | refine And.intro ?_ ?_))
        refine c23.use [0] ?_ (by (repeat' (first | exact trivial | exact rfl | exact fun _ _ => rfl | exact fun _ _ _ _ => rfl | exact Or.inl rfl | exact Or.inr rfl | refine And.intro ?_ ?_))) rfl
        (repeat' (first | exact trivial | exact fun _ => rfl | exact rfl | refine And.intro ?_ ?_))
        all_goals first | exact True.intro | omega | exact u1 (lt64 (by omega)) | exact u0 (lt64 (by omega)) | (show under _ _; simp [under, gB, wB]; done) | (show under _ _; simp [under, gB, wB]; omega) | skip
        all_goals intro hg
        all_goals first | (exfalso; revert hg; simp [gB, wB]; done) | skip
        refine c24.use [3, 4] ?_ (by (repeat' (first | exact trivial | exact rfl | exact fun _ _ => rfl | exact fun _ _ _ _ => rfl | exact Or.inl rfl | exact Or.inr rfl | refine And.intro ?_ ?_))) rfl
        (repeat' (first | exact trivial | exact fun _ => rfl | exact rfl | refine And.intro ?_ ?_))
        all_goals first | exact True.intro | omega | exact u1 (lt64 (by omega)) | exact u0 (lt64 (by omega)) | (show under _ _; simp [under, gB, wB]; done) | (show under _ _; simp [under, gB, wB]; omega) | skip
        all_goals intro hg
        all_goals first | (exfalso; revert hg; simp [gB, wB]; done) | skip
        refine t15.use [] ?_ trivial rfl
        (repeat' (first | exact trivial | exact fun _ => rfl | exact rfl | refine And.intro ?_ ?_))
        all_goals first | exact True.intro | omega | exact u1 (lt64 (by omega)) | exact u0 (lt64 (by omega)) | (show under _ _; simp [under, gB, wB]; done) | (show under _ _; simp [under, gB, wB]; omega) | skip
        refine ent_tau [0, 1] ⟨by (repeat' (first | exact trivial | exact rfl | exact fun _ _ => rfl | exact fun _ _ _ _ => rfl | exact Or.inl rfl | exact Or.inr rfl | refine And.intro ?_ ?_)), ⟨rfl, ?_, trivial⟩, rfl⟩
        exact congrArg SV.bool (by simp)
end Go.Proofs.Ytgofhjihkinknaa
