/-
  Parts: Qy, Ra, Tf.
-/
import Derived.Test.YtgofhjihkinknaaN26
import Derived.Test.YtgofhjihkinknaaN27
set_option linter.unusedVariables false
/-
  Contracts: truly, the next move.
-/
namespace Go.Proofs.Ytgofhjihkinknaa
open Go Go.Sy Kuhn
set_option linter.unusedSimpArgs false
set_option maxRecDepth 100000
set_option maxHeartbeats 4000000
attribute [local irreducible] CallP CodeP Ent YieldP
attribute [local irreducible] HD.ch maskO

def pl35_9s : Plan := .eager 0 <| .eager 1 <| .eager 2 <| .alt 3 (.eager 4 <| .eager 5 <| .eager 6 <| .eager 7 <| .eager 8 <| .eager 9 <| .eager 10 <| .eager 11 <| .eager 12 <| .eager 13 <| .eager 14 <| .eager 15 <| .eager 16 <| .eager 17 <| .eager 18 <| .eager 19 <| .done) .no
def pl35_15s : Plan := .eager 0 <| .eager 1 <| .eager 2 <| .eager 3 <| .eager 4 <| .eager 6 <| .eager 7 <| .eager 8 <| .eager 10 <| .eager 11 <| .eager 12 <| .eager 13 <| .eager 15 <| .eager 16 <| .eager 17 <| .alt 5 (.alt 9 (.eager 14 <| .alt 18 (.eager 19 <| .eager 20 <| .eager 21 <| .alt 22 (.done) .no) .no) (.alt 18 (.alt 9 (.eager 14 <| .eager 19 <| .eager 20 <| .eager 21 <| .alt 22 (.done) .no) .no) .no)) (.alt 9 (.eager 14 <| .alt 5 (.alt 18 (.eager 19 <| .eager 20 <| .eager 21 <| .alt 22 (.done) .no) .no) (.alt 18 (.eager 19 <| .alt 5 (.eager 20 <| .eager 21 <| .alt 22 (.done) .no) .no) .no)) (.alt 18 (.alt 5 (.alt 9 (.eager 14 <| .eager 19 <| .eager 20 <| .eager 21 <| .alt 22 (.done) .no) .no) (.alt 9 (.eager 14 <| .eager 19 <| .alt 5 (.eager 20 <| .eager 21 <| .alt 22 (.done) .no) .no) .no)) .no))
/-- Is a move done? -/
def dn (o : Nat → Nat) (j k : Nat) : Bool := (List.range j).any fun i => decide (o i = k)
theorem dn_iff {o : Nat → Nat} {j k : Nat} : dn o j k = true ↔ ∃ i, i < j ∧ o i = k := by
  simp [dn]
theorem dn_no {o : Nat → Nat} {j k : Nat} : dn o j k = false ↔ ∀ i, i < j → o i ≠ k := by
  cases c : dn o j k with
  | false =>
    refine ⟨fun _ i hi e => ?_, fun _ => rfl⟩
    rw [dn_iff.2 ⟨i, hi, e⟩] at c
    cases c
  | true =>
    obtain ⟨i, hi, e⟩ := dn_iff.1 c
    exact ⟨fun q => (nomatch q), fun q => absurd e (q i hi)⟩
def outF (o : Nat → Nat) (T : Nat → Int) (j k : Nat) : Int := match dn o j k with | true => T k | false => 0
def NextIs (h : HD) (o : Nat → Nat) (j i : Nat) : Option Nat → Prop
  | none => ∀ m, m < i → dn o j m = true
  | some m => (m < i ∧ dn o j m = false) ∧ ∀ m', m' < i → dn o j m' = false → m' = m ∨ befo h.at' m m'
theorem next_done {h : HD} {o : Nat → Nat} {j i : Nat} {w : Option Nat} (H : NextIs h o j i w) (hd : dn o j i = true) : NextIs h o j (i + 1) w := by
  cases w with
  | none =>
    intro m hm
    by_cases c : m = i
    · rw [c]; exact hd
    · exact H m (by omega)
  | some m =>
    obtain ⟨⟨a, b⟩, c⟩ := H
    refine ⟨⟨by omega, b⟩, fun m' hm' hd' => ?_⟩
    by_cases q : m' = i
    · rw [q, hd] at hd'
      cases hd'
    · exact c m' (by omega) hd'
theorem next_new {h : HD} {o : Nat → Nat} {j i : Nat} (H : NextIs h o j i none) (hd : dn o j i = false) : NextIs h o j (i + 1) (some i) := by
  refine ⟨⟨by omega, hd⟩, fun m' hm' hd' => ?_⟩
  by_cases q : m' = i
  · exact .inl q
  · rw [H m' (by omega)] at hd'
    cases hd'
theorem next_less {h : HD} {o : Nat → Nat} {j i m : Nat} (H : NextIs h o j i (some m)) (hd : dn o j i = false) (hl : h.at' i < h.at' m) : NextIs h o j (i + 1) (some i) := by
  obtain ⟨⟨a, b⟩, c⟩ := H
  refine ⟨⟨by omega, hd⟩, fun m' hm' hd' => ?_⟩
  by_cases q : m' = i
  · exact .inl q
  · right
    rcases c m' (by omega) hd' with rfl | x
    · exact .inl hl
    · unfold befo at x ⊢
      omega
theorem next_more {h : HD} {o : Nat → Nat} {j i m : Nat} (H : NextIs h o j i (some m)) (hl : ¬ h.at' i < h.at' m) : NextIs h o j (i + 1) (some m) := by
  obtain ⟨⟨a, b⟩, c⟩ := H
  refine ⟨⟨by omega, b⟩, fun m' hm' hd' => ?_⟩
  by_cases q : m' = i
  · right
    subst q
    unfold befo
    omega
  · exact c m' (by omega) hd'
theorem next_is {h : HD} {j : Nat} {w : Option Nat} (hj : j < h.n) (H : NextIs h (srtF h.at' h.n) j h.n w) : w = some (srtF h.at' h.n j) := by
  obtain ⟨h1, _, h3⟩ := srtF_ok h.at' h.n
  have hdj : dn (srtF h.at' h.n) j (srtF h.at' h.n j) = false := dn_no.2 fun i hi => srt_inj hi hj
  cases w with
  | none =>
    have := H _ (srt_lt hj)
    rw [hdj] at this
    cases this
  | some m =>
    obtain ⟨⟨a, b⟩, c⟩ := H
    obtain ⟨i, hi, e⟩ := (h3 m).2 a
    have hij : ¬ i < j := fun q => dn_no.1 b i q e
    rcases c _ (srt_lt hj) hdj with q | q
    · rw [q]
    · by_cases z : i = j
      · rw [← z, e]
      · have := h1 j i (by omega) hi
        rw [e] at this
        exact (befo_irr (befo_tr this q)).elim
theorem dn_succ {o : Nat → Nat} {j k : Nat} : dn o (j + 1) k = (dn o j k || decide (o j = k)) := by
  unfold dn
  rw [List.range_succ, List.any_append]
  simp
theorem dn_eq {o : Nat → Nat} {j ix k : Nat} (hix : ix = o j) : (k = ix → dn o (j + 1) k = true) ∧ (¬ k = ix → dn o (j + 1) k = dn o j k) := by
  rw [dn_succ]
  constructor
  · intro e
    rw [decide_eq_true (by rw [e, hix])]
    simp
  · intro e
    rw [decide_eq_false (fun q => e (by rw [hix, q]))]
    simp
theorem row_dn {o : Nat → Nat} {j ix : Nat} (hix : ix = o j) (k : Nat) : selL (decide (k = ix)) (splice [SV.bool (dn o j ix)] 0 [ofVal (Value.bool true)]) [SV.bool (dn o j k)] = [SV.bool (dn o (j + 1) k)] := by
  obtain ⟨d1, d2⟩ := dn_eq (k := k) hix
  by_cases c : k = ix
  · rw [decide_eq_true c, selL_true, d1 c]
    rfl
  · rw [decide_eq_false c, selL_false, d2 c]
theorem row_out1 {o : Nat → Nat} {T : Nat → Int} {j ix : Nat} (hix : ix = o j) (a : Int) (ha : a = T (o j)) (k : Nat) : selL (decide (k = ix)) (splice [SV.int .i64 (outF o T j ix)] 0 [SV.int .i64 a]) [SV.int .i64 (outF o T j k)] = [SV.int .i64 (outF o T (j + 1) k)] := by
  obtain ⟨d1, d2⟩ := dn_eq (k := k) hix
  unfold outF
  by_cases c : k = ix
  · rw [decide_eq_true c, selL_true, d1 c, ha, c, hix]
    rfl
  · rw [decide_eq_false c, selL_false, d2 c]
theorem row_out {o : Nat → Nat} {T : Nat → Int} {j ix : Nat} (hix : ix = o j) (a V : Int) (hV : V = T (o j)) (k : Nat) : selL (decide (k = ix)) (splice (selL (decide (ix = ix)) (splice [SV.int .i64 (outF o T j ix)] 0 [SV.int .i64 a]) [SV.int .i64 (outF o T j ix)]) 0 [SV.int .i64 V]) (selL (decide (k = ix)) (splice [SV.int .i64 (outF o T j ix)] 0 [SV.int .i64 a]) [SV.int .i64 (outF o T j k)]) = [SV.int .i64 (outF o T (j + 1) k)] := by
  obtain ⟨d1, d2⟩ := dn_eq (k := k) hix
  by_cases c : k = ix
  · rw [decide_eq_true c, selL_true, decide_eq_true (rfl : ix = ix), selL_true, hV]
    have e : outF o T (j + 1) k = T (o j) := by
      unfold outF
      rw [d1 c, c, hix]
    rw [e]
    rfl
  · rw [decide_eq_false c, selL_false, selL_false]
    have e : outF o T (j + 1) k = outF o T j k := by
      unfold outF
      rw [d2 c]
    rw [e]
def H35 (h : HD) (pl lg : PD) (o : Nat → Nat) (T : Nat → Int) (j : Nat) (M : List (Int × Int)) : SHeap := HD.H h ++ [some (.roa 1 pl.n (PD.F pl)), some (.roa 1 lg.n (PD.F lg)), some (.roc (bc h)), some (.arr 1 h.n h.n fun k => [.int .i64 (outF o T j k)]), some (.arr 1 h.n h.n fun k => [.bool (dn o j k)]), some (.cmap M)]
theorem lookF {M : List (Int × Int)} {x : Int} {v : Option Int} (h : fget M x = v) : aval M x = v.getD 0 ∧ ahas M x = v.isSome := by
  rw [aval_f, ahas_f, h]
  exact ⟨rfl, rfl⟩
noncomputable def T35 (h : HD) (pl lg : PD) : Tm := mkT [] [(1, .osl pl.b 1 1 pl.n pl.cap), (2, .osl lg.b 2 1 lg.n lg.cap), (3, .ptr 3 0), (7, .slice 4 1 0 h.n h.n), (8, .slice 5 1 0 h.n h.n)] 0 (List.replicate 108 none)
def G35 (h : HD) (pl lg : PD) : SHeap := HD.H h ++ [some (.roa 1 pl.n (PD.F pl)), some (.roa 1 lg.n (PD.F lg)), some (.cells (bc h)), some (.arr 1 h.n h.n fun _ => [.int .i64 0]), some (.arr 1 h.n h.n fun _ => [.bool false])]
theorem seg35 (h : HD) (hv : h.Valid) (pl lg : PD) (hpl : pok h pl = true) (hlg : lg.n = h.n) (hl : LgOk h lg.p) : CodeP Try.prog none 3 (sufC Try.f35 2) ⟨T35 h pl lg, G35 h pl lg, []⟩
    (KRet E Try.f35 3 (.slice 3 1 0 h.n h.n) (HD.H h ++ [some (.roa 1 pl.n (PD.F pl)), some (.roa 1 lg.n (PD.F lg)), some (.arr 1 h.n h.n fun k => [.int .i64 (TL h pl lg.p k)])])) := by
  have hn := hv.2.1
  have hpn : pl.n = h.n := by
    unfold pok at hpl
    simp only [Bool.and_eq_true, decide_eq_true_eq] at hpl
    exact hpl.1
  obtain ⟨o, eo⟩ : ∃ o, o = srtF h.at' h.n := ⟨_, rfl⟩
  obtain ⟨T, eT⟩ : ∃ T, T = TL h pl lg.p := ⟨_, rfl⟩
  have oval : ∀ i, i < h.n → T (o i) = match lastI pl.p o i (pl.p (o i)) with
    | none => h.at' (o i)
    | some i' => max (h.at' (o i)) (T (o i') + lg.p (o i') + h.pace * h.dist (o i') (o i)) := fun i hi => by
    rw [eo, eT]
    exact TL_val hi
  have olt : ∀ i, i < h.n → o i < h.n := fun i hi => by rw [eo]; exact srt_lt hi
  have oall : ∀ k, k < h.n → dn o h.n k = true := fun k hk => by
    obtain ⟨i, hi, e⟩ := ((srtF_ok h.at' h.n).2.2 k).2 hk
    rw [eo]
    exact dn_iff.2 ⟨i, hi, e⟩
  have hT : ∀ k, k < h.n → 0 ≤ T k ∧ T k ≤ 970 := fun k hk => by rw [eT]; exact TL_all hv hl hk
  have nxt := fun j w (hj : j < h.n) (H : NextIs h o j h.n w) => next_is (h := h) (j := j) (w := w) hj (by rw [← eo]; exact H)
  rw [← eo] at nxt
  rw [← eT]
  refine codeP_XK E_ok 100 ?_
  (repeat' (first | exact trivial | exact fun _ => rfl | exact rfl | refine And.intro ?_ ?_))
  refine loopP E_ok [1, 2, 3, 7, 8, 9, 23] (fun g : Nat × List (Int × Int) => [(24, .int .i64 g.1)]) (fun g _ => H35 h pl lg o T g.1 g.2) (fun g => g.1 ≤ h.n ∧ ∀ x : Int, fget g.2 x = (lastI pl.p o g.1 x).map fun i => ((o i : Nat) : Int)) (fun g => h.n - g.1) (0, []) ⟨Nat.zero_le _, fun x => rfl⟩ ?_ ?_
  · exact ent_tau [0, 1, 2, 3, 4, 5, 6] ⟨by (repeat' (first | exact trivial | exact rfl | exact fun _ _ => rfl | exact fun _ _ _ _ => rfl | exact Or.inl rfl | exact Or.inr rfl | refine And.intro ?_ ?_)), by (repeat' (first | exact trivial | exact rfl | exact congrArg (SV.int .i64) (Int.natCast_succ _).symm | exact congrArg (SV.int .u64) (Int.natCast_succ _).symm | refine And.intro ?_ ?_)), rfl⟩
  rintro ⟨j, M⟩ ⟨hj, hM⟩
  simp only at hj hM
  refine And.intro ?_ (And.intro (fun hlt => ?_) (fun hlt => ?_))
  · (repeat' (first | exact trivial | exact fun _ => rfl | exact rfl | refine And.intro ?_ ?_))
  · have hlt' : j < h.n := by
      have := of_decide_eq_true hlt
      simp only at this
      omega
    (repeat' (first | exact trivial | exact fun _ => rfl | exact rfl | refine And.intro ?_ ?_))
    refine loopP E_ok [1, 2, 3, 7, 8, 9, 23, 24, 27, 28] (fun g : Nat × Option Nat => [(10, .int .i64 (lastV g.2)), (29, .int .i64 g.1)]) (fun _ _ => H35 h pl lg o T j M) (fun g => g.1 ≤ h.n ∧ NextIs h o j g.1 g.2) (fun g => h.n - g.1) (0, none) ⟨Nat.zero_le _, fun m hm => absurd hm (Nat.not_lt_zero m)⟩ ?_ ?_
    · exact ent_tau [0, 1, 2, 3, 4, 5, 6] ⟨by (repeat' (first | exact trivial | exact rfl | exact fun _ _ => rfl | exact fun _ _ _ _ => rfl | exact Or.inl rfl | exact Or.inr rfl | refine And.intro ?_ ?_)), by (repeat' (first | exact trivial | exact rfl | exact congrArg (SV.int .i64) (Int.natCast_succ _).symm | exact congrArg (SV.int .u64) (Int.natCast_succ _).symm | refine And.intro ?_ ?_)), rfl⟩
    rintro ⟨i, w⟩ ⟨hi, hw⟩
    simp only at hi hw
    refine And.intro ?_ (And.intro (fun hli => ?_) (fun hli => ?_))
    · (repeat' (first | exact trivial | exact fun _ => rfl | exact rfl | refine And.intro ?_ ?_))
    · have hli' : i < h.n := by
        have := of_decide_eq_true hli
        simp only at this
        omega
      have ei := z1 i
      obtain ⟨d, hd⟩ : ∃ d, dn o j i = d := ⟨_, rfl⟩
      cases w with
      | none =>
        (repeat' (first | exact trivial | exact fun _ => rfl | exact rfl | refine And.intro ?_ ?_))
        all_goals first | (first | omega | exact u0 (by omega) | exact u1 (by omega) | exact u1 ⟨by omega, by omega⟩ | exact un (by omega) | exact fun hh => hh | exact fun hh => absurd hh (by decide) | exact fun hh => congrArg not hh | exact fun hh => Bool.noConfusion (show true = false from hh) | exact fun hh => Bool.noConfusion (show false = true from hh)) | skip
        refine drawP E_ok [3, 7] pl35_9s (by kernel_rfl) ?_
        (repeat' (first | exact trivial | exact fun _ => rfl | exact rfl | refine And.intro ?_ ?_))
        all_goals first | exact True.intro | omega | exact u1 (lt64 (by omega)) | exact u0 (lt64 (by omega)) | (show under _ _; simp [under, gB, wB]; done) | (show under _ _; simp [under, gB, wB]; omega) | skip
        all_goals first | (show under _ _; simp [under, gB, wB, lastV]; done) | skip
        · intro hx
          have hd2 : dn o j i = false := by
            cases d with
            | false => exact hd
            | true =>
              exfalso
              revert hx
              simp [ei, hd, lastV]
          (repeat' (first | exact trivial | exact fun _ => rfl | exact rfl | refine And.intro ?_ ?_))
          all_goals first | exact True.intro | omega | exact u1 (lt64 (by omega)) | exact u0 (lt64 (by omega)) | (show under _ _; simp [under, gB, wB]; done) | (show under _ _; simp [under, gB, wB]; omega) | skip
          refine ⟨(i + 1, some i), ⟨hli', next_new hw hd2⟩, by simp only; omega, ?_⟩
          exact ent_tau [0, 1, 2, 3, 4, 5, 6] ⟨by (repeat' (first | exact trivial | exact rfl | exact fun _ _ => rfl | exact fun _ _ _ _ => rfl | exact Or.inl rfl | exact Or.inr rfl | refine And.intro ?_ ?_)), by (repeat' (first | exact trivial | exact rfl | exact congrArg (SV.int .i64) (Int.natCast_succ _).symm | exact congrArg (SV.int .u64) (Int.natCast_succ _).symm | refine And.intro ?_ ?_)), rfl⟩
        · intro hx
          have hd2 : dn o j i = true := by
            cases d with
            | true => exact hd
            | false =>
              exfalso
              revert hx
              simp [ei, hd, lastV]
          (repeat' (first | exact trivial | exact fun _ => rfl | exact rfl | refine And.intro ?_ ?_))
          all_goals first | exact True.intro | omega | exact u1 (lt64 (by omega)) | exact u0 (lt64 (by omega)) | (show under _ _; simp [under, gB, wB]; done) | (show under _ _; simp [under, gB, wB]; omega) | skip
          refine ⟨(i + 1, none), ⟨hli', next_done hw hd2⟩, by simp only; omega, ?_⟩
          exact ent_tau [0, 1, 2, 3, 4, 5, 6] ⟨by (repeat' (first | exact trivial | exact rfl | exact fun _ _ => rfl | exact fun _ _ _ _ => rfl | exact Or.inl rfl | exact Or.inr rfl | refine And.intro ?_ ?_)), by (repeat' (first | exact trivial | exact rfl | exact congrArg (SV.int .i64) (Int.natCast_succ _).symm | exact congrArg (SV.int .u64) (Int.natCast_succ _).symm | refine And.intro ?_ ?_)), rfl⟩
      | some m =>
        have hm : m < i := hw.1.1
        have em := z1 m
        have l1 : 0 + (lastV (i, some m).snd).toNat < h.n := by show 0 + ((m : Nat) : Int).toNat < h.n; omega
        have l2 : lastV (i, some m).snd < (h.n : Nat) := by show (m : Int) < (h.n : Nat); omega
        have l0 : 0 ≤ lastV (i, some m).snd := by show (0 : Int) ≤ (m : Int); omega
        have l3 : ¬ ((m : Nat) : Int) < 0 := by omega
        (repeat' (first | exact trivial | exact fun _ => rfl | exact rfl | refine And.intro ?_ ?_))
        all_goals first | (first | omega | exact u0 (by omega) | exact u1 (by omega) | exact u1 ⟨by omega, by omega⟩ | exact un (by omega) | exact fun hh => hh | exact fun hh => absurd hh (by decide) | exact fun hh => congrArg not hh | exact fun hh => Bool.noConfusion (show true = false from hh) | exact fun hh => Bool.noConfusion (show false = true from hh)) | skip
        refine drawP E_ok [3, 7] pl35_9s (by kernel_rfl) ?_
        (repeat' (first | exact trivial | exact fun _ => rfl | exact rfl | refine And.intro ?_ ?_))
        all_goals first | exact True.intro | omega | exact u1 (lt64 (by omega)) | exact u0 (lt64 (by omega)) | (show under _ _; simp [under, gB, wB]; done) | (show under _ _; simp [under, gB, wB]; omega) | skip
        all_goals first | exact fun _ => l0 | exact fun _ => l1 | exact fun _ => l2 | (show under _ _; simp [under, gB, wB, lastV, l3]; done) | skip
        · intro hx
          have hd2 : dn o j i = false := by
            cases d with
            | false => exact hd
            | true =>
              exfalso
              revert hx
              simp [ei, hd, lastV]
          have hl2 : h.at' i < h.at' m := by
            by_cases c : h.at' i < h.at' m
            · exact c
            · exfalso
              revert hx
              simp [ei, em, hd2, lastV, l3, c]
          (repeat' (first | exact trivial | exact fun _ => rfl | exact rfl | refine And.intro ?_ ?_))
          all_goals first | exact True.intro | omega | exact u1 (lt64 (by omega)) | exact u0 (lt64 (by omega)) | (show under _ _; simp [under, gB, wB]; done) | (show under _ _; simp [under, gB, wB]; omega) | skip
          refine ⟨(i + 1, some i), ⟨hli', next_less hw hd2 hl2⟩, by simp only; omega, ?_⟩
          exact ent_tau [0, 1, 2, 3, 4, 5, 6] ⟨by (repeat' (first | exact trivial | exact rfl | exact fun _ _ => rfl | exact fun _ _ _ _ => rfl | exact Or.inl rfl | exact Or.inr rfl | refine And.intro ?_ ?_)), by (repeat' (first | exact trivial | exact rfl | exact congrArg (SV.int .i64) (Int.natCast_succ _).symm | exact congrArg (SV.int .u64) (Int.natCast_succ _).symm | refine And.intro ?_ ?_)), rfl⟩
        · intro hx
          by_cases hd2 : dn o j i = true
          · (repeat' (first | exact trivial | exact fun _ => rfl | exact rfl | refine And.intro ?_ ?_))
            all_goals first | exact True.intro | omega | exact u1 (lt64 (by omega)) | exact u0 (lt64 (by omega)) | (show under _ _; simp [under, gB, wB]; done) | (show under _ _; simp [under, gB, wB]; omega) | skip
            refine ⟨(i + 1, some m), ⟨hli', next_done hw hd2⟩, by simp only; omega, ?_⟩
            exact ent_tau [0, 1, 2, 3, 4, 5, 6] ⟨by (repeat' (first | exact trivial | exact rfl | exact fun _ _ => rfl | exact fun _ _ _ _ => rfl | exact Or.inl rfl | exact Or.inr rfl | refine And.intro ?_ ?_)), by (repeat' (first | exact trivial | exact rfl | exact congrArg (SV.int .i64) (Int.natCast_succ _).symm | exact congrArg (SV.int .u64) (Int.natCast_succ _).symm | refine And.intro ?_ ?_)), rfl⟩
          · have hl2 : ¬ h.at' i < h.at' m := by
              intro c
              have hd3 : dn o j i = false := by simpa using hd2
              revert hx
              simp [ei, em, hd3, lastV, l3, c]
            (repeat' (first | exact trivial | exact fun _ => rfl | exact rfl | refine And.intro ?_ ?_))
            all_goals first | exact True.intro | omega | exact u1 (lt64 (by omega)) | exact u0 (lt64 (by omega)) | (show under _ _; simp [under, gB, wB]; done) | (show under _ _; simp [under, gB, wB]; omega) | skip
            refine ⟨(i + 1, some m), ⟨hli', next_more hw hl2⟩, by simp only; omega, ?_⟩
            exact ent_tau [0, 1, 2, 3, 4, 5, 6] ⟨by (repeat' (first | exact trivial | exact rfl | exact fun _ _ => rfl | exact fun _ _ _ _ => rfl | exact Or.inl rfl | exact Or.inr rfl | refine And.intro ?_ ?_)), by (repeat' (first | exact trivial | exact rfl | exact congrArg (SV.int .i64) (Int.natCast_succ _).symm | exact congrArg (SV.int .u64) (Int.natCast_succ _).symm | refine And.intro ?_ ?_)), rfl⟩
    · have e : i = h.n := by
        have := of_decide_eq_false hli
        simp only at this
        omega
      subst e
      have hw2 := nxt j w hlt' hw
      subst hw2
      have ojn := olt j hlt'
      have eoj := z1 (o j)
      have ov := oval j hlt'
      have ix : 0 + (lastV (h.n, some (o j)).snd).toNat = o j := eoj
      have l0 : 0 ≤ lastV (h.n, some (o j)).snd := by show (0 : Int) ≤ ((o j : Nat) : Int); omega
      have l1 : 0 + (lastV (h.n, some (o j)).snd).toNat < h.n := by rw [ix]; exact ojn
      have l1p : 0 + (lastV (h.n, some (o j)).snd).toNat < pl.n := by rw [hpn]; exact l1
      have l2 : lastV (h.n, some (o j)).snd < (h.n : Nat) := by show ((o j : Nat) : Int) < (h.n : Nat); omega
      have l2p : lastV (h.n, some (o j)).snd < (pl.n : Nat) := by rw [hpn]; exact l2
      have hM' : ∀ x : Int, fget (aset M (pl.p (0 + (lastV (h.n, some (o j)).snd).toNat)) (lastV (h.n, some (o j)).snd)) x = (lastI pl.p o (j + 1) x).map fun i => ((o i : Nat) : Int) := fun x => by
        rw [aset_f, fget_set, ix]
        show _ = (if pl.p (o j) = x then some j else lastI pl.p o j x).map _
        by_cases c : pl.p (o j) = x
        · rw [if_pos c, if_pos c.symm]
          rfl
        · rw [if_neg c, if_neg (fun q => c q.symm)]
          exact hM x
      have hM0 := lookF (hM (pl.p (0 + (lastV (h.n, some (o j)).snd).toNat)))
      (repeat' (first | exact trivial | exact fun _ => rfl | exact rfl | refine And.intro ?_ ?_))
      all_goals first | (first | omega | exact u0 (by omega) | exact u1 (by omega) | exact u1 ⟨by omega, by omega⟩ | exact un (by omega) | exact fun hh => hh | exact fun hh => absurd hh (by decide) | exact fun hh => congrArg not hh | exact fun hh => Bool.noConfusion (show true = false from hh) | exact fun hh => Bool.noConfusion (show false = true from hh)) | (show under none _; first | exact u0 l0 | exact u0 l1 | exact u0 l1p | exact u0 l2 | exact u0 l2p) | skip
      · intro hx
        obtain ⟨i', hli⟩ : ∃ i', lastI pl.p o j (pl.p (o j)) = some i' := by
          cases hc : lastI pl.p o j (pl.p (o j)) with
          | some i' => exact ⟨i', rfl⟩
          | none =>
            exfalso
            have h2 := hM0.2
            rw [ix, hc] at h2
            have hx2 : ahas M (pl.p (0 + (lastV (h.n, some (o j)).snd).toNat)) = true := hx
            rw [ix, h2] at hx2
            cases hx2
        have hij : i' < j := by
          rcases lastI_ok pl.p o (pl.p (o j)) j with ⟨q, _⟩ | ⟨i2, q1, q2, _⟩
          · rw [q] at hli
            cases hli
          · rw [q1] at hli
            cases hli
            exact q2
        have ea : aval M (pl.p (0 + (lastV (h.n, some (o j)).snd).toNat)) = ((o i' : Nat) : Int) := by
          rw [hM0.1, ix, hli]
          rfl
        have oi := olt i' (by omega)
        have a0 : 0 ≤ aval M (pl.p (0 + (lastV (h.n, some (o j)).snd).toNat)) := by rw [ea]; omega
        have a1 : aval M (pl.p (0 + (lastV (h.n, some (o j)).snd).toNat)) < (h.n : Nat) := by rw [ea]; omega
        have a1g : aval M (pl.p (0 + (lastV (h.n, some (o j)).snd).toNat)) < (lg.n : Nat) := by rw [hlg]; exact a1
        have ax : 0 + (aval M (pl.p (0 + (lastV (h.n, some (o j)).snd).toNat))).toNat = o i' := by rw [ea]; exact z1 _
        have a2 : 0 + (aval M (pl.p (0 + (lastV (h.n, some (o j)).snd).toNat))).toNat < h.n := by rw [ax]; exact oi
        have a2g : 0 + (aval M (pl.p (0 + (lastV (h.n, some (o j)).snd).toNat))).toNat < lg.n := by rw [hlg]; exact a2
        have hne : o i' ≠ o j := by rw [eo]; exact srt_inj hij hlt'
        have eB : (bif decide (0 + (aval M (pl.p (0 + (lastV (h.n, some (o j)).snd).toNat))).toNat = 0 + (lastV (h.n, some (o j)).snd).toNat) then h.at' (0 + (lastV (h.n, some (o j)).snd).toNat) else outF o T j (0 + (aval M (pl.p (0 + (lastV (h.n, some (o j)).snd).toNat))).toNat)) = T (o i') := by
          rw [ax, ix, decide_eq_false hne, cond_false]
          unfold outF
          rw [dn_iff.2 ⟨i', hij, rfl⟩]
        have hTi := hT _ oi
        have hlo := hl _ oi
        have mi := (hv.2.2 _ oi).2.2
        have w0 := HD.walk_nonneg hv (o i') (o j)
        have w1 := HD.walk_le hv oi ojn
        rw [hli] at ov
        simp only at ov
        have eC : (bif decide (0 + (lastV (h.n, some (o j)).snd).toNat = 0 + (lastV (h.n, some (o j)).snd).toNat) then h.at' (0 + (lastV (h.n, some (o j)).snd).toNat) else outF o T j (0 + (lastV (h.n, some (o j)).snd).toNat)) = h.at' (o j) := by
          rw [decide_eq_true rfl, cond_true, ix]
        have hV : (if (bif decide (0 + (aval M (pl.p (0 + (lastV (h.n, some (o j)).snd).toNat))).toNat = 0 + (lastV (h.n, some (o j)).snd).toNat) then h.at' (0 + (lastV (h.n, some (o j)).snd).toNat) else outF o T j (0 + (aval M (pl.p (0 + (lastV (h.n, some (o j)).snd).toNat))).toNat)) + lg.p (0 + (aval M (pl.p (0 + (lastV (h.n, some (o j)).snd).toNat))).toNat) + h.pace * h.dist (o i') (o j) > (bif decide (0 + (lastV (h.n, some (o j)).snd).toNat = 0 + (lastV (h.n, some (o j)).snd).toNat) then h.at' (0 + (lastV (h.n, some (o j)).snd).toNat) else outF o T j (0 + (lastV (h.n, some (o j)).snd).toNat)) then (bif decide (0 + (aval M (pl.p (0 + (lastV (h.n, some (o j)).snd).toNat))).toNat = 0 + (lastV (h.n, some (o j)).snd).toNat) then h.at' (0 + (lastV (h.n, some (o j)).snd).toNat) else outF o T j (0 + (aval M (pl.p (0 + (lastV (h.n, some (o j)).snd).toNat))).toNat)) + lg.p (0 + (aval M (pl.p (0 + (lastV (h.n, some (o j)).snd).toNat))).toNat) + h.pace * h.dist (o i') (o j) else (bif decide (0 + (lastV (h.n, some (o j)).snd).toNat = 0 + (lastV (h.n, some (o j)).snd).toNat) then h.at' (0 + (lastV (h.n, some (o j)).snd).toNat) else outF o T j (0 + (lastV (h.n, some (o j)).snd).toNat))) = T (o j) := by
          rw [eB, eC, ax, ov]
          split <;> omega
        have c36 := t36 h hv (o i') (o j) oi ojn
        rw [← ea] at c36
        (repeat' (first | exact trivial | exact fun _ => rfl | exact rfl | refine And.intro ?_ ?_))
        refine drawP E_ok [3] pl35_15s (by kernel_rfl) ?_
        (repeat' (first | exact trivial | exact fun _ => rfl | exact rfl | refine And.intro ?_ ?_))
        all_goals first | (first | omega | exact u0 (by omega) | exact u1 (by omega) | exact u1 ⟨by omega, by omega⟩ | exact un (by omega) | exact fun hh => hh | exact fun hh => absurd hh (by decide) | exact fun hh => congrArg not hh | exact fun hh => Bool.noConfusion (show true = false from hh) | exact fun hh => Bool.noConfusion (show false = true from hh)) | (show under none _; first | exact u0 l0 | exact u0 l1 | exact u0 l1p | exact u0 l2 | exact u0 l2p | exact u0 a0 | exact u0 a1 | exact u0 a1g | exact u0 a2 | exact u0 a2g) | (show (_ : Int) ≤ _; rw [eB, ax]; omega) | skip
        all_goals refine c36.use [0] ?_ (by (repeat' (first | exact trivial | exact rfl | exact fun _ _ => rfl | exact fun _ _ _ _ => rfl | exact Or.inl rfl | exact Or.inr rfl | refine And.intro ?_ ?_))) rfl
        all_goals (repeat' (first | exact trivial | exact fun _ => rfl | exact rfl | refine And.intro ?_ ?_))
        all_goals first | (first | omega | exact u0 (by omega) | exact u1 (by omega) | exact u1 ⟨by omega, by omega⟩ | exact un (by omega) | exact fun hh => hh | exact fun hh => absurd hh (by decide) | exact fun hh => congrArg not hh | exact fun hh => Bool.noConfusion (show true = false from hh) | exact fun hh => Bool.noConfusion (show false = true from hh)) | (show under none _; first | exact u0 l0 | exact u0 l1 | exact u0 l1p | exact u0 l2 | exact u0 l2p | exact u0 a0 | exact u0 a1 | exact u0 a1g | exact u0 a2 | exact u0 a2g) | (show (_ : Int) ≤ _; rw [eB, ax]; omega) | skip
        all_goals refine ⟨(j + 1, aset M (pl.p (0 + (lastV (h.n, some (o j)).snd).toNat)) (lastV (h.n, some (o j)).snd)), ⟨hlt', hM'⟩, by simp only; omega, ?_⟩
        all_goals refine ent_tau [0, 1, 2, 3, 4, 5, 6] ⟨?_, by (repeat' (first | exact trivial | exact rfl | exact congrArg (SV.int .i64) (Int.natCast_succ _).symm | exact congrArg (SV.int .u64) (Int.natCast_succ _).symm | refine And.intro ?_ ?_)), rfl⟩
        all_goals (repeat' (first | exact trivial | exact rfl | exact fun _ _ => rfl | exact fun _ _ _ _ => rfl | exact Or.inl rfl | exact Or.inr rfl | refine And.intro ?_ ?_))
        all_goals first | exact fun k _ => row_dn ix k | exact fun k _ => row_out ix _ _ hV k
      · intro hx
        have hli : lastI pl.p o j (pl.p (o j)) = none := by
          cases hc : lastI pl.p o j (pl.p (o j)) with
          | none => rfl
          | some i' =>
            exfalso
            have h2 := hM0.2
            rw [ix, hc] at h2
            have hx2 : ahas M (pl.p (0 + (lastV (h.n, some (o j)).snd).toNat)) = false := hx
            rw [ix, h2] at hx2
            cases hx2
        rw [hli] at ov
        simp only at ov
        have hV : h.at' (0 + (lastV (h.n, some (o j)).snd).toNat) = T (o j) := by rw [ix, ov]
        (repeat' (first | exact trivial | exact fun _ => rfl | exact rfl | refine And.intro ?_ ?_))
        all_goals first | (first | omega | exact u0 (by omega) | exact u1 (by omega) | exact u1 ⟨by omega, by omega⟩ | exact un (by omega) | exact fun hh => hh | exact fun hh => absurd hh (by decide) | exact fun hh => congrArg not hh | exact fun hh => Bool.noConfusion (show true = false from hh) | exact fun hh => Bool.noConfusion (show false = true from hh)) | (show under none _; first | exact u0 l0 | exact u0 l1 | exact u0 l1p | exact u0 l2 | exact u0 l2p) | skip
        refine ⟨(j + 1, aset M (pl.p (0 + (lastV (h.n, some (o j)).snd).toNat)) (lastV (h.n, some (o j)).snd)), ⟨hlt', hM'⟩, by simp only; omega, ?_⟩
        refine ent_tau [0, 1, 2, 3, 4, 5, 6] ⟨?_, by (repeat' (first | exact trivial | exact rfl | exact congrArg (SV.int .i64) (Int.natCast_succ _).symm | exact congrArg (SV.int .u64) (Int.natCast_succ _).symm | refine And.intro ?_ ?_)), rfl⟩
        (repeat' (first | exact trivial | exact rfl | exact fun _ _ => rfl | exact fun _ _ _ _ => rfl | exact Or.inl rfl | exact Or.inr rfl | refine And.intro ?_ ?_))
        all_goals first | exact fun k _ => row_dn ix k | exact fun k _ => row_out1 ix _ hV k
  · have e : j = h.n := by
      have := of_decide_eq_false hlt
      simp only at this
      omega
    subst e
    (repeat' (first | exact trivial | exact fun _ => rfl | exact rfl | refine And.intro ?_ ?_))
    refine ent_tau [0, 1, 2, 4] ⟨?_, by (repeat' (first | exact trivial | exact rfl | exact congrArg (SV.int .i64) (Int.natCast_succ _).symm | exact congrArg (SV.int .u64) (Int.natCast_succ _).symm | refine And.intro ?_ ?_)), rfl⟩
    (repeat' (first | exact trivial | exact rfl | exact fun _ _ => rfl | exact fun _ _ _ _ => rfl | exact Or.inl rfl | exact Or.inr rfl | refine And.intro ?_ ?_))
    exact fun k hk => by
      show [SV.int .i64 (outF o T h.n k)] = _
      unfold outF
      rw [oall k hk]
      rfl
end Go.Proofs.Ytgofhjihkinknaa
/-
  Contracts: truly; how long moves truly take.
-/
namespace Go.Proofs.Ytgofhjihkinknaa
open Go Go.Sy Kuhn
set_option linter.unusedSimpArgs false
set_option maxRecDepth 100000
set_option maxHeartbeats 4000000
attribute [local irreducible] CallP CodeP Ent YieldP
attribute [local irreducible] HD.ch maskO

theorem t35 (h : HD) (hv : h.Valid) (pl lg : PD) (hpl : pok h pl = true) (hlg : lg.n = h.n) (hl : LgOk h lg.p) : CallP Try.prog 35 [HD.A h, .osl pl.b 1 1 pl.n pl.cap, .osl lg.b 2 1 lg.n lg.cap] (HD.H h ++ [some (.roa 1 pl.n (PD.F pl)), some (.roa 1 lg.n (PD.F lg))])
    (Ret (.slice 3 1 0 h.n h.n) (HD.H h ++ [some (.roa 1 pl.n (PD.F pl)), some (.roa 1 lg.n (PD.F lg)), some (.arr 1 h.n h.n fun k => [.int .i64 (TL h pl lg.p k)])])) := by
  have hn := hv.2.1
  have hpn : pl.n = h.n := by
    unfold pok at hpl
    simp only [Bool.and_eq_true, decide_eq_true_eq] at hpl
    exact hpl.1
  have seg := seg35 h hv pl lg hpl hlg hl
  obtain ⟨pn, pp, pb, pc⟩ := pl
  simp only at hpn
  subst hpn
  refine callRK (E := E) E_ok 2 Try.func35 rfl ?_
  (repeat' (first | exact trivial | exact fun _ => rfl | exact rfl | refine And.intro ?_ ?_))
  refine drawP E_ok [] pl35_1 (by kernel_rfl) ?_
  (repeat' (first | exact trivial | exact fun _ => rfl | exact rfl | refine And.intro ?_ ?_))
  all_goals first | (first | omega | exact u0 (by omega) | exact u1 (by omega) | exact u1 ⟨by omega, by omega⟩ | exact un (by omega) | exact fun hh => hh | exact fun hh => absurd hh (by decide) | exact fun hh => congrArg not hh | exact fun hh => Bool.noConfusion (show true = false from hh) | exact fun hh => Bool.noConfusion (show false = true from hh)) | (show ((h.n : Nat) : Int) ≤ _; omega) | (show ((1 : Nat) : Int) * ((h.n : Nat) : Int) ≤ _; omega) | (show ((8 : Nat) : Int) * ((h.n : Nat) : Int) ≤ _; omega) | skip
  all_goals refine CodeP.pre ?_ seg
  · exact ent_tau [0, 1, 2, 3, 4, 5] ⟨by (repeat' (first | exact trivial | exact rfl | exact fun _ _ => rfl | exact fun _ _ _ _ => rfl | exact Or.inl rfl | exact Or.inr rfl | refine And.intro ?_ ?_)), by (repeat' (first | exact trivial | exact rfl | exact congrArg (SV.int .i64) (Int.natCast_succ _).symm | exact congrArg (SV.int .u64) (Int.natCast_succ _).symm | refine And.intro ?_ ?_)), rfl⟩
  · exact ent_tau [0, 1, 2, 3, 5, 4] ⟨by (repeat' (first | exact trivial | exact rfl | exact fun _ _ => rfl | exact fun _ _ _ _ => rfl | exact Or.inl rfl | exact Or.inr rfl | refine And.intro ?_ ?_)), by (repeat' (first | exact trivial | exact rfl | exact congrArg (SV.int .i64) (Int.natCast_succ _).symm | exact congrArg (SV.int .u64) (Int.natCast_succ _).symm | refine And.intro ?_ ?_)), rfl⟩
end Go.Proofs.Ytgofhjihkinknaa
/-
  HorseEnds: what is told of all moves.
-/
namespace Go.Proofs.Ytgofhjihkinknaa
open Go Go.Sy Kuhn
set_option linter.unusedSimpArgs false
set_option maxRecDepth 100000
set_option maxHeartbeats 4000000
attribute [local irreducible] CallP CodeP Ent YieldP
set_option maxHeartbeats 40000000
attribute [local irreducible] HD.ch maskO

/-- How many minutes the moves take at least, or at most, as a list. -/
def lgD (h : HD) (s : Bool) (b : Bool) (cap : Nat) : PD := ⟨h.n, h.takes s, b, cap⟩
theorem lg_ok {h : HD} (hv : h.Valid) (s b : Bool) (cap : Nat) : LgOk h (lgD h s b cap).p := fun j hj => by
  have := hv.2.2 j hj
  unfold HD.okMv at this
  cases s <;> simp only [lgD, HD.takes] <;> omega
def H7v (h : HD) (y p lo hi : PD) (m : Int) : SHeap := H7y h y p ++ [some (.roc [.int .i64 (bz h false m h.n), .int .i64 (bz h true m h.n)]), some (.roa 1 lo.n (PD.F lo)), some (.roa 1 hi.n (PD.F hi))]
noncomputable def T7v (p lo hi : PD) (m : Int) : Tm := mkT [] [(3, .ptr 2 0), (6, .bool false), (11, .osl p.b 3 1 p.n p.cap), (12, .osl lo.b 5 1 lo.n lo.cap), (13, .osl hi.b 6 1 hi.n hi.cap), (14, .int .i64 m), (15, .ptr 4 0)] 0 (List.replicate 320 none)
theorem seg7v (h : HD) (hv : h.Valid) (y p : PD) (hpl : pok h p = true) (b : Bool) (cl ch : Nat) (m : Int) (hm : 0 ≤ m ∧ m ≤ 220)
    (seg : CodeP Try.prog none 2 (sufC Try.f7 13) ⟨T7y p, H7y h y p, []⟩ (KRet E Try.f7 2 (.bool true) (H7 h y))) :
    CodeP Try.prog none 2 (sufC Try.f7 8) ⟨T7v p (lgD h false b cl) (lgD h true b ch) m, H7v h y p (lgD h false b cl) (lgD h true b ch) m, []⟩ (KRet E Try.f7 2 (.bool true) (H7 h y)) := by
  have hn := hv.2.1
  have hpn : p.n = h.n := by
    unfold pok at hpl
    simp only [Bool.and_eq_true, decide_eq_true_eq] at hpl
    exact hpl.1
  have seg2 := seg7w h hv y p hpl seg
  have c1 := t35 h hv p (lgD h false b cl) hpl rfl (lg_ok hv false b cl)
  have c2 := t35 h hv p (lgD h true b ch) hpl rfl (lg_ok hv true b ch)
  have c3 := t20 h p (by omega) _ _ (.inl ⟨hv, hpl, rfl, rfl⟩)
  have c4 := t22 h m
  have e4 : HD.bus h m = (bz h false m h.n, bz h true m h.n, 0) := by
    unfold HD.bus
    rw [if_pos hv, if_pos (inB_iff.2 hm)]
  rw [e4] at c4
  obtain ⟨z1, ez1⟩ : ∃ z, bz h false m h.n = z := ⟨_, rfl⟩
  obtain ⟨z2, ez2⟩ : ∃ z, bz h true m h.n = z := ⟨_, rfl⟩
  unfold H7v
  rw [ez1, ez2] at c4 ⊢
  refine codeP_XK E_ok 4 ?_
  (repeat' (first | exact trivial | exact fun _ => rfl | exact rfl | refine And.intro ?_ ?_))
  refine drawP E_ok [] pl7_20 (by kernel_rfl) ?_
  (repeat' (first | exact trivial | exact fun _ => rfl | exact rfl | refine And.intro ?_ ?_))
  refine c1.use [0, 3, 5] ?_ (by (repeat' (first | exact trivial | exact rfl | exact fun _ _ => rfl | exact fun _ _ _ _ => rfl | exact Or.inl rfl | exact Or.inr rfl | refine And.intro ?_ ?_))) rfl
  (repeat' (first | exact trivial | exact fun _ => rfl | exact rfl | refine And.intro ?_ ?_))
  refine c2.use [0, 3, 6] ?_ (by (repeat' (first | exact trivial | exact rfl | exact fun _ _ => rfl | exact fun _ _ _ _ => rfl | exact Or.inl rfl | exact Or.inr rfl | refine And.intro ?_ ?_))) rfl
  (repeat' (first | exact trivial | exact fun _ => rfl | exact rfl | refine And.intro ?_ ?_))
  refine c3.use [0, 3] ?_ (by (repeat' (first | exact trivial | exact rfl | exact fun _ _ => rfl | exact fun _ _ _ _ => rfl | exact Or.inl rfl | exact Or.inr rfl | refine And.intro ?_ ?_))) rfl
  (repeat' (first | exact trivial | exact fun _ => rfl | exact rfl | refine And.intro ?_ ?_))
  refine c4.use [0] ?_ (by (repeat' (first | exact trivial | exact rfl | exact fun _ _ => rfl | exact fun _ _ _ _ => rfl | exact Or.inl rfl | exact Or.inr rfl | refine And.intro ?_ ?_))) rfl
  all_goals (repeat' (first | exact trivial | exact fun _ => rfl | exact rfl | refine And.intro ?_ ?_))
  all_goals first | exact True.intro | omega | exact u1 (lt64 (by omega)) | exact u0 (lt64 (by omega)) | (show under _ _; simp [under, gB, wB]; done) | (show under _ _; simp [under, gB, wB]; omega) | skip
  all_goals intro g1
  all_goals first | (exfalso; revert g1; simp [gB, wB, hpn]; done) | skip
  (repeat' (first | exact trivial | exact fun _ => rfl | exact rfl | refine And.intro ?_ ?_))
  refine CodeP.part seg2 ?_
  refine ent_tau [0, 1, 2, 3, 7, 8, 9] ⟨?_, by (repeat' (first | exact trivial | exact rfl | exact congrArg (SV.int .i64) (Int.natCast_succ _).symm | exact congrArg (SV.int .u64) (Int.natCast_succ _).symm | refine And.intro ?_ ?_)), rfl⟩
  (repeat' (first | exact trivial | exact rfl | exact fun _ _ => rfl | exact fun _ _ _ _ => rfl | exact Or.inl rfl | exact Or.inr rfl | refine And.intro ?_ ?_))
end Go.Proofs.Ytgofhjihkinknaa
