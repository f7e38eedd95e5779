/-
  Parts: Qc, Qf, Qj, Ql, Qx, Qy, Ra, Rb.
-/
import Derived.Test.YtgofhjihkinknaaK23
import Derived.Test.YtgofhjihkinknaaK25
set_option linter.unusedVariables false
/-
  Plain law: sets of moves of which no two are one horse's; how many there are.
-/
namespace Go.Proofs.Ytgofhjihkinknaa
open Go Go.Sy Kuhn
set_option linter.unusedSimpArgs false
set_option maxRecDepth 100000
set_option maxHeartbeats 4000000
attribute [local irreducible] CallP CodeP Ent YieldP
attribute [local irreducible] HD.ch maskO

theorem bit_le {S n i : Nat} (hS : S < 2 ^ n) (h : S.testBit i = true) : i < n := by
  by_cases c : i < n
  · exact c
  · rw [Nat.testBit_lt_two_pow (Nat.lt_of_lt_of_le hS (Nat.pow_le_pow_right (by omega) (by omega)))] at h
    cases h
theorem lone_all {h : HD} {s : Bool} {S : Nat} : ∀ {n : Nat}, lone h s S n = true ↔ ∀ i, i < n → S.testBit i = true → sdiff S (2 ^ i) &&& h.ch s i = 0
  | 0 => ⟨fun _ i hi => absurd hi (Nat.not_lt_zero i), fun _ => rfl⟩
  | n + 1 => by
    simp only [lone, Bool.and_eq_true, lone_all (n := n)]
    constructor
    · rintro ⟨a, b⟩ i hi hb
      rcases Nat.lt_succ_iff_lt_or_eq.1 hi with c | rfl
      · exact a i c hb
      · rw [hb] at b
        by_cases c : sdiff S (2 ^ i) &&& h.ch s i = 0
        · exact c
        · rw [decide_eq_false c] at b
          cases b
    · intro H
      refine ⟨fun i hi => H i (by omega), ?_⟩
      cases hb : S.testBit n with
      | false => rfl
      | true =>
        rw [decide_eq_true (H n (by omega) hb)]
        rfl
theorem lone_iff {h : HD} (hn : h.n ≤ 7) {s : Bool} {S : Nat} (hS : S < 2 ^ h.n) : lone h s S h.n = true ↔ h.Alone s (fun i => S.testBit i) := by
  have key : ∀ i, i < h.n → (sdiff S (2 ^ i) &&& h.ch s i = 0 ↔ ∀ k, k < h.n → S.testBit k = true → k ≠ i → h.can s i k = false) := by
    intro i hi
    constructor
    · intro e k hk hb hne
      have := congrArg (fun x => x.testBit k) e
      simp only [Nat.testBit_and, Nat.zero_testBit] at this
      rw [sdiff_bit (by omega), hb, HD.ch_bit, decide_eq_true hi, decide_eq_true hk, Nat.testBit_two_pow, decide_eq_false (by omega)] at this
      simpa using this
    · intro H
      apply Nat.eq_of_testBit_eq
      intro k
      simp only [Nat.testBit_and, Nat.zero_testBit]
      by_cases hk : k < h.n
      · rw [sdiff_bit (by omega), HD.ch_bit, decide_eq_true hi, decide_eq_true hk, Nat.testBit_two_pow]
        by_cases hne : k = i
        · rw [decide_eq_true hne.symm]
          simp
        · cases hb : S.testBit k with
          | false => simp
          | true =>
            rw [H k hk hb hne]
            simp
      · rw [HD.ch_bit, decide_eq_false hk]
        simp
  rw [lone_all]
  constructor
  · intro H i k hi hk bi bk hne
    have a := (key i hi).1 (H i hi bi) k hk bk fun c => hne c.symm
    have b := (key k hk).1 (H k hk bk) i hi bi hne
    unfold HD.apart
    rw [a, b]
    rfl
  · intro H i hi bi
    refine (key i hi).2 fun k hk bk hne => ?_
    have := H i k hi hk bi bk fun c => hne c.symm
    unfold HD.apart at this
    simp only [Bool.and_eq_true] at this
    cases c : h.can s i k
    · rfl
    · rw [c] at this
      simp at this
theorem mask_pop {B : Nat → Bool} {n : Nat} (hn : n ≤ 7) (hB : ∀ i, B i = true → i < n) : pop (maskO B n) = cnt B 7 := by
  unfold pop
  apply cnt_congr
  intro r hr
  rw [maskO_bit]
  cases b : B r with
  | false => simp
  | true => rw [decide_eq_true (hB r b)]; rfl
theorem pop_alone {h : HD} (hv : h.Valid) {s : Bool} {S : Nat} (hS : S < 2 ^ h.n) (ha : h.Alone s (fun i => S.testBit i)) : pop S ≤ h.few s := by
  obtain ⟨p, a, b⟩ := HD.need_plan hv s HD.full
  exact HD.alone_le (ok := HD.full) (fun i hi => ⟨bit_le hS hi, rfl⟩) ha b a
theorem prf_lt (h : HD) (hn : h.n ≤ 7) (s : Bool) : prfS h s < 2 ^ h.n := (prf_ok h hn s).1
theorem prf_alone (h : HD) (hn : h.n ≤ 7) (s : Bool) : h.Alone s (fun i => (prfS h s).testBit i) := (lone_iff hn (prf_lt h hn s)).1 (prf_ok h hn s).2.1
/-- Of other such sets none comes first. -/
theorem prf_best {h : HD} (hn : h.n ≤ 7) {s : Bool} {T : Nat} (hT : T < 2 ^ h.n) (ha : h.Alone s (fun i => T.testBit i)) : prfS h s = T ∨ Prior false (prfS h s) T := (prf_ok h hn s).2.2 T hT ((lone_iff hn hT).2 ha)
theorem prf_pop {h : HD} (hv : h.Valid) (s : Bool) : pop (prfS h s) = h.few s := by
  have hn := hv.2.1
  apply Nat.le_antisymm (pop_alone hv (prf_lt h hn s) (prf_alone h hn s))
  obtain ⟨B, b1, b2, b3⟩ := HD.need_alone hv s HD.full
  have hm := mask_pop hn fun i hi => (b1 i hi).1
  have := prf_best hn (s := s) (maskO_lt B h.n) (fun i k hi hk bi bk hne => b2 i k hi hk (by have bi' : (maskO B h.n).testBit i = true := bi; rw [maskO_bit] at bi'; simp at bi'; exact bi'.2) (by have bk' : (maskO B h.n).testBit k = true := bk; rw [maskO_bit] at bk'; simp at bk'; exact bk'.2) hne)
  have : pop (maskO B h.n) ≤ pop (prfS h s) := by
    rcases this with e | e
    · rw [e]
      exact Nat.le_refl _
    · unfold Prior at e
      simp only at e
      omega
  unfold HD.few
  omega
/-- Without a move that is not of the proof as many horses are needed. -/
theorem prf_del {h : HD} (hv : h.Valid) {s : Bool} {j : Nat} (hj : (prfS h s).testBit j = false) : h.few s ≤ h.need s (fun i => !decide (i = j)) := by
  have hn := hv.2.1
  obtain ⟨p, a, b⟩ := HD.need_plan hv s fun i => !decide (i = j)
  have := HD.alone_le (h := h) (s := s) (B := fun i => (prfS h s).testBit i) (fun i hi => ⟨bit_le (prf_lt h hn s) hi, by
    have : i ≠ j := fun e => by rw [e, hj] at hi; cases hi
    rw [decide_eq_false this]
    rfl⟩) (prf_alone h hn s) b a
  have e := prf_pop hv s
  unfold pop at e
  omega
end Go.Proofs.Ytgofhjihkinknaa
/-
  Contracts: right, Used, Size.
-/
namespace Go.Proofs.Ytgofhjihkinknaa
open Go Go.Sy Kuhn
set_option linter.unusedSimpArgs false
set_option maxRecDepth 100000
set_option maxHeartbeats 4000000
attribute [local irreducible] CallP CodeP Ent YieldP
attribute [local irreducible] HD.ch maskO

/-- What Check tells is there. -/
theorem chk_spec {h : HD} (hv : h.Valid) {s : Bool} {pl : PD} (hpl : pok h pl = true) : Chk h s pl (HD.chk h s pl) := by
  have hex : ∃ r, Chk h s pl r := by
    by_cases H : ∃ m : Nat, m / 8 < m % 8 ∧ m % 8 < h.n ∧ twoBad h s pl (m / 8) (m % 8)
    · have hn := hv.2.1
      obtain ⟨m, ⟨m1, m2, m3⟩, hmin⟩ : ∃ m, (m / 8 < m % 8 ∧ m % 8 < h.n ∧ twoBad h s pl (m / 8) (m % 8)) ∧ ∀ m', m' < m → ¬ (m' / 8 < m' % 8 ∧ m' % 8 < h.n ∧ twoBad h s pl (m' / 8) (m' % 8)) := by
        obtain ⟨m, hm⟩ := H
        induction m using Nat.strongRecOn with
        | _ m ih =>
          by_cases c : ∃ m', m' < m ∧ (m' / 8 < m' % 8 ∧ m' % 8 < h.n ∧ twoBad h s pl (m' / 8) (m' % 8))
          · obtain ⟨m', a, b⟩ := c
            exact ih m' a b
          · exact ⟨m, hm, fun m' a b => c ⟨m', a, b⟩⟩
      refine ⟨_, .inr (.inr ⟨hv, hpl, .inl ⟨m / 8, m % 8, ⟨m1, m2, m3⟩, fun i k h1 h2 h3 => ?_, rfl⟩⟩)⟩
      have e1 : (i * 8 + k) / 8 = i := by omega
      have e2 : (i * 8 + k) % 8 = k := by omega
      by_cases c : i * 8 + k < m
      · exact absurd ⟨by rw [e1, e2]; exact h1, by rw [e2]; exact h2, by rw [e1, e2]; exact h3⟩ (hmin _ c)
      · omega
    · have hn := hv.2.1
      refine ⟨_, .inr (.inr ⟨hv, hpl, .inr ⟨fun i k h1 h2 h3 => H ⟨i * 8 + k, ?_⟩, rfl⟩⟩)⟩
      have e1 : (i * 8 + k) / 8 = i := by omega
      have e2 : (i * 8 + k) % 8 = k := by omega
      rw [e1, e2]
      exact ⟨h1, h2, h3⟩
  unfold HD.chk
  rw [dif_pos hex]
  exact hex.choose_spec
/-- Is a plan right? -/
noncomputable def rightB (h : HD) (s : Bool) (pl : PD) : Bool := decide ((HD.chk h s pl).2.2 = 4)
theorem rightB_iff {h : HD} (hv : h.Valid) {s : Bool} {pl : PD} (hpl : pok h pl = true) : rightB h s pl = true ↔ h.Right s HD.full pl.p := by
  unfold rightB
  rw [decide_eq_true_eq]
  rcases chk_spec hv (s := s) hpl with ⟨a, _⟩ | ⟨_, a, _⟩ | ⟨_, _, c⟩
  · exact absurd hv a
  · rw [hpl] at a
    cases a
  · rcases c with ⟨i, k, ⟨h1, h2, h3, h4⟩, _, e⟩ | ⟨H, e⟩
    · rw [e]
      constructor
      · intro x
        simp at x
      · intro R
        have := R i k (by omega) h2 rfl rfl (by omega) h3
        rw [h4] at this
        cases this
    · rw [e]
      refine ⟨fun _ i k hi hk _ _ hne e2 => ?_, fun _ => rfl⟩
      cases ha : h.apart s i k with
      | false => rfl
      | true =>
        rcases Nat.lt_or_gt_of_ne hne with c | c
        · exact absurd ⟨e2, ha⟩ (H i k c hk)
        · exact absurd ⟨e2.symm, by rw [HD.apart_comm]; exact ha⟩ (H k i c hi)
theorem pop_half : ∀ S : Fin 128, pop S = S.val % 2 + pop (S.val / 2) := by decide +kernel
theorem pop_step {m : Nat} (h : m < 128) : pop m = m % 2 + pop (m / 2) := pop_half ⟨m, h⟩
theorem pop_zero : pop 0 = 0 := by decide +kernel
theorem pop_le7 (S : Nat) : pop S ≤ 7 := cnt_bnd _ 7
theorem t42 (S : Nat) (hS : S < 128) : CallP Try.prog 42 [.int .i64 S] [] (Ret (.int .i64 (pop S : Nat)) []) := by
  refine callR (E := E) E_ok Try.func42 rfl ?_
  (repeat' (first | exact trivial | exact fun _ => rfl | exact rfl | refine And.intro ?_ ?_))
  refine loopP E_ok [] (fun g : Nat × Nat => [(0, .int .i64 g.1), (3, .int .i64 g.2)]) (fun _ H => H) (fun g => g.1 < 128 ∧ g.2 + pop g.1 = pop S) (fun g => g.1) (S, 0) ⟨hS, Nat.zero_add _⟩ ?_ ?_
  · exact ent_tau [] ⟨by (repeat' (first | exact trivial | exact rfl | exact fun _ _ => rfl | exact fun _ _ _ _ => rfl | exact Or.inl rfl | exact Or.inr rfl | refine And.intro ?_ ?_)), by (repeat' (first | exact trivial | exact rfl | exact congrArg (SV.int .i64) (Int.natCast_succ _).symm | exact congrArg (SV.int .u64) (Int.natCast_succ _).symm | refine And.intro ?_ ?_)), rfl⟩
  rintro ⟨m, j⟩ ⟨hm, hj⟩
  simp only at hm hj
  have hp := pop_step hm
  have h7 := pop_le7 S
  refine And.intro ?_ (And.intro (fun hc => ?_) (fun hc => ?_))
  · (repeat' (first | exact trivial | exact fun _ => rfl | exact rfl | refine And.intro ?_ ?_))
  · have hm0 : 0 < m := by
      have := of_decide_eq_true hc
      omega
    have e1 : ((m : Nat) : Int).tmod 2 = ((m % 2 : Nat) : Int) := by
      rw [Int.tmod_eq_emod_of_nonneg (by omega)]
      rfl
    have e2 : ((m : Nat) : Int).tdiv 2 = ((m / 2 : Nat) : Int) := by
      rw [Int.tdiv_eq_ediv_of_nonneg (by omega)]
      rfl
    (repeat' (first | exact trivial | exact fun _ => rfl | exact rfl | refine And.intro ?_ ?_))
    all_goals first | (first | omega | exact u0 (by omega) | exact u1 (by omega) | exact u1 ⟨by omega, by omega⟩ | exact un (by omega) | exact fun hh => hh | exact fun hh => absurd hh (by decide) | exact fun hh => congrArg not hh | exact fun hh => Bool.noConfusion (show true = false from hh) | exact fun hh => Bool.noConfusion (show false = true from hh)) | (rw [e1]; omega) | (rw [e2]; omega) | skip
    refine ⟨(m / 2, j + m % 2), ⟨by simp only; omega, by simp only; omega⟩, by simp only; omega, ?_⟩
    refine ent_tau [] ⟨by (repeat' (first | exact trivial | exact rfl | exact fun _ _ => rfl | exact fun _ _ _ _ => rfl | exact Or.inl rfl | exact Or.inr rfl | refine And.intro ?_ ?_)), ?_, rfl⟩
    (repeat' (first | exact trivial | exact rfl | exact congrArg (SV.int .i64) e2 | exact congrArg (SV.int .i64) (by rw [e1]; exact (Int.natCast_add _ _).symm) | refine And.intro ?_ ?_))
  · have e : m = 0 := by
      have := of_decide_eq_false hc
      omega
    subst e
    have e2 : j = pop S := by rw [← hj, pop_zero]; rfl
    (repeat' (first | exact trivial | exact fun _ => rfl | exact rfl | refine And.intro ?_ ?_))
    refine ent_tau [] ⟨by (repeat' (first | exact trivial | exact rfl | exact fun _ _ => rfl | exact fun _ _ _ _ => rfl | exact Or.inl rfl | exact Or.inr rfl | refine And.intro ?_ ?_)), ⟨rfl, ?_, trivial⟩, rfl⟩
    exact congrArg (fun z : Nat => SV.int .i64 z) e2
end Go.Proofs.Ytgofhjihkinknaa
/-
  Contracts of the document's answer: Follows, Busy, which move is before another one.
-/
namespace Go.Proofs.Ytgofhjihkinknaa
open Go Go.Sy Kuhn
set_option linter.unusedSimpArgs false
set_option maxRecDepth 100000
set_option maxHeartbeats 4000000
attribute [local irreducible] CallP CodeP Ent YieldP
attribute [local irreducible] HD.ch maskO

def befB (h : HD) (i k : Nat) : Bool := decide (h.at' i < h.at' k) || (decide (h.at' i = h.at' k) && decide (i < k))
theorem befB_iff {h : HD} {i k : Nat} : befB h i k = true ↔ befo h.at' i k := by
  unfold befB befo
  simp
end Go.Proofs.Ytgofhjihkinknaa
/-
  Contracts of the document's answer: when a move begins.
-/
namespace Go.Proofs.Ytgofhjihkinknaa
open Go Go.Sy Kuhn
set_option linter.unusedSimpArgs false
set_option maxRecDepth 100000
set_option maxHeartbeats 4000000
attribute [local irreducible] CallP CodeP Ent YieldP
attribute [local irreducible] HD.ch maskO

theorem T59_beg (h : HD) (pl : PD) (s : Bool) : Beg h.n h.at' pl.p (thH h s) (T59 h pl s) := tmS_beg h.at' pl.p (thH h s)
/-- How many moves are before one. -/
def bfr (h : HD) (k : Nat) : Nat := cnt (fun m => befB h m k) h.n
theorem bfr_lt {h : HD} {m k : Nat} (hm : m < h.n) (hb : befo h.at' m k) : bfr h m < bfr h k :=
  cnt_lt (k := m) (fun r _ hr => befB_iff.2 (befo_tr (befB_iff.1 hr) hb)) hm (by
    cases c : befB h m m
    · rfl
    · exact (befo_irr (befB_iff.1 c)).elim) (befB_iff.2 hb)
def lastV : Option Nat → Int
  | none => -1
  | some m => (m : Nat)
end Go.Proofs.Ytgofhjihkinknaa
/-
  Contracts: when moves truly begin.
-/
namespace Go.Proofs.Ytgofhjihkinknaa
open Go Go.Sy Kuhn
set_option linter.unusedSimpArgs false
set_option maxRecDepth 100000
set_option maxHeartbeats 4000000
attribute [local irreducible] CallP CodeP Ent YieldP
attribute [local irreducible] HD.ch maskO

theorem t36 (h : HD) (hv : h.Valid) (i k : Nat) (hi : i < h.n) (hk : k < h.n) : CallP Try.prog 36 [HD.A h, .int .i64 i, .int .i64 k] (HD.H h) (Ret (.int .i64 (h.pace * h.dist i k)) (HD.H h)) := by
  have hn := hv.2.1
  have ei := z1 i
  have ek := z1 k
  have mi := hv.2.2 i hi
  have mk := hv.2.2 k hk
  unfold HD.okMv at mi mk
  have w0 := HD.walk_nonneg hv i k
  have w1 := HD.walk_le hv hi hk
  refine callR (E := E) E_ok Try.func36 rfl ?_
  (repeat' (first | exact trivial | exact fun _ => rfl | exact rfl | refine And.intro ?_ ?_))
  refine drawP E_ok [1] pl36_1 (by kernel_rfl) ?_
  (repeat' (first | exact trivial | exact fun _ => rfl | exact rfl | refine And.intro ?_ ?_))
  all_goals first | (first | omega | exact u0 (by omega) | exact u1 (by omega) | exact u1 ⟨by omega, by omega⟩ | exact un (by omega) | exact fun hh => hh | exact fun hh => absurd hh (by decide) | exact fun hh => congrArg not hh | exact fun hh => Bool.noConfusion (show true = false from hh) | exact fun hh => Bool.noConfusion (show false = true from hh)) | (simp only [ei, ek]; (first | omega | exact u0 (by omega) | exact u1 (by omega) | exact u1 ⟨by omega, by omega⟩ | exact un (by omega) | exact fun hh => hh | exact fun hh => absurd hh (by decide) | exact fun hh => congrArg not hh | exact fun hh => Bool.noConfusion (show true = false from hh) | exact fun hh => Bool.noConfusion (show false = true from hh))) | skip
  · intro hx
    have hx2 : decide (h.pl (0 + ((i : Nat) : Int).toNat) - h.pl (0 + ((k : Nat) : Int).toNat) < 0) = true := hx
    have hx3 := of_decide_eq_true hx2
    rw [ei, ek] at hx3
    have e : h.dist i k = -(h.pl i - h.pl k) := by
      unfold HD.dist
      omega
    have eW : h.pace * (0 - (h.pl (0 + ((i : Nat) : Int).toNat) - h.pl (0 + ((k : Nat) : Int).toNat))) = h.pace * h.dist i k := by
      rw [ei, ek, e, Int.zero_sub]
    (repeat' (first | exact trivial | exact fun _ => rfl | exact rfl | refine And.intro ?_ ?_))
    all_goals first | (first | omega | exact u0 (by omega) | exact u1 (by omega) | exact u1 ⟨by omega, by omega⟩ | exact un (by omega) | exact fun hh => hh | exact fun hh => absurd hh (by decide) | exact fun hh => congrArg not hh | exact fun hh => Bool.noConfusion (show true = false from hh) | exact fun hh => Bool.noConfusion (show false = true from hh)) | (simp only [ei, ek]; (first | omega | exact u0 (by omega) | exact u1 (by omega) | exact u1 ⟨by omega, by omega⟩ | exact un (by omega) | exact fun hh => hh | exact fun hh => absurd hh (by decide) | exact fun hh => congrArg not hh | exact fun hh => Bool.noConfusion (show true = false from hh) | exact fun hh => Bool.noConfusion (show false = true from hh))) | (rw [eW]; omega) | skip
    refine ent_tau [0] ⟨by (repeat' (first | exact trivial | exact rfl | exact fun _ _ => rfl | exact Or.inl rfl | refine And.intro ?_ ?_)), ⟨rfl, ?_, trivial⟩, rfl⟩
    exact congrArg (SV.int .i64) eW
  · intro hx
    have hx2 : decide (h.pl (0 + ((i : Nat) : Int).toNat) - h.pl (0 + ((k : Nat) : Int).toNat) < 0) = false := hx
    have hx3 := of_decide_eq_false hx2
    rw [ei, ek] at hx3
    have e : h.dist i k = h.pl i - h.pl k := by
      unfold HD.dist
      omega
    have eW : h.pace * (h.pl (0 + ((i : Nat) : Int).toNat) - h.pl (0 + ((k : Nat) : Int).toNat)) = h.pace * h.dist i k := by
      rw [ei, ek, e]
    (repeat' (first | exact trivial | exact fun _ => rfl | exact rfl | refine And.intro ?_ ?_))
    all_goals first | (first | omega | exact u0 (by omega) | exact u1 (by omega) | exact u1 ⟨by omega, by omega⟩ | exact un (by omega) | exact fun hh => hh | exact fun hh => absurd hh (by decide) | exact fun hh => congrArg not hh | exact fun hh => Bool.noConfusion (show true = false from hh) | exact fun hh => Bool.noConfusion (show false = true from hh)) | (simp only [ei, ek]; (first | omega | exact u0 (by omega) | exact u1 (by omega) | exact u1 ⟨by omega, by omega⟩ | exact un (by omega) | exact fun hh => hh | exact fun hh => absurd hh (by decide) | exact fun hh => congrArg not hh | exact fun hh => Bool.noConfusion (show true = false from hh) | exact fun hh => Bool.noConfusion (show false = true from hh))) | (rw [eW]; omega) | skip
    refine ent_tau [0] ⟨by (repeat' (first | exact trivial | exact rfl | exact fun _ _ => rfl | exact Or.inl rfl | refine And.intro ?_ ?_)), ⟨rfl, ?_, trivial⟩, rfl⟩
    exact congrArg (SV.int .i64) eW
/-- When moves begin, if they take so long. -/
def thL (h : HD) (lg : Nat → Int) : Int → Nat → Nat → Int := fun b m k => b + lg m + h.pace * h.dist m k
def TL (h : HD) (pl : PD) (lg : Nat → Int) : Nat → Int := tmS h.at' pl.p (thL h lg) (srtF h.at' h.n) h.n
theorem TL_beg (h : HD) (pl : PD) (lg : Nat → Int) : Beg h.n h.at' pl.p (thL h lg) (TL h pl lg) := tmS_beg h.at' pl.p (thL h lg)
/-- A truth: how long moves take. -/
def LgOk (h : HD) (lg : Nat → Int) : Prop := ∀ i, i < h.n → h.lo i ≤ lg i ∧ lg i ≤ h.hi i
theorem TL_val {h : HD} {pl : PD} {lg : Nat → Int} {i : Nat} (hi : i < h.n) : TL h pl lg (srtF h.at' h.n i) = match lastI pl.p (srtF h.at' h.n) i (pl.p (srtF h.at' h.n i)) with
    | none => h.at' (srtF h.at' h.n i)
    | some i' => max (h.at' (srtF h.at' h.n i)) (TL h pl lg (srtF h.at' h.n i') + lg (srtF h.at' h.n i') + h.pace * h.dist (srtF h.at' h.n i') (srtF h.at' h.n i)) := tmS_val h.at' pl.p (thL h lg) h.n i hi
theorem TL_rng {h : HD} (hv : h.Valid) {pl : PD} {lg : Nat → Int} (hl : LgOk h lg) : ∀ (m i : Nat), i < m → i < h.n → 0 ≤ TL h pl lg (srtF h.at' h.n i) ∧ TL h pl lg (srtF h.at' h.n i) ≤ 200 + 110 * i
  | 0, i, h, _ => by omega
  | m + 1, i, hm, hi => by
    rw [TL_val hi]
    have hat := (hv.2.2 _ (srt_lt hi)).1
    rcases lastI_ok pl.p (srtF h.at' h.n) (pl.p (srtF h.at' h.n i)) i with ⟨a, _⟩ | ⟨i', a, b, _, _⟩
    · rw [a]
      simp only
      omega
    · rw [a]
      simp only
      have ih := TL_rng hv (pl := pl) hl m i' (by omega) (by omega)
      have s1 := srt_lt (h := h) (show i' < h.n by omega)
      have l1 := hl _ s1
      have m1 := (hv.2.2 _ s1).2.2
      have w0 := HD.walk_nonneg hv (srtF h.at' h.n i') (srtF h.at' h.n i)
      have w1 := HD.walk_le hv s1 (srt_lt hi)
      omega
theorem TL_all {h : HD} (hv : h.Valid) {pl : PD} {lg : Nat → Int} (hl : LgOk h lg) {x : Nat} (hx : x < h.n) : 0 ≤ TL h pl lg x ∧ TL h pl lg x ≤ 970 := by
  obtain ⟨i, hi, e⟩ := ((srtF_ok h.at' h.n).2.2 x).2 hx
  have := TL_rng hv (pl := pl) hl (i + 1) i (by omega) hi
  rw [e] at this
  have := hv.2.1
  omega
theorem TL_le {h : HD} (hv : h.Valid) {pl : PD} {lg lg' : Nat → Int} (hle : ∀ i, i < h.n → lg i ≤ lg' i) {x : Nat} (hx : x < h.n) : TL h pl lg x ≤ TL h pl lg' x :=
  beg_le (n := h.n) (fun k hk => (hv.2.2 k hk).1.1) (by have := hv.2.1; omega) (TL_beg h pl lg) (TL_beg h pl lg') (fun b b' m k hm hk hb => by
    have := hle m hm
    unfold thL
    omega) _ x (Nat.lt_succ_self _) hx
/-- By a plan that is surely right none begins late. -/
theorem TL_right {h : HD} (hv : h.Valid) {pl : PD} (hr : h.Right true HD.full pl.p) : ∀ (r x : Nat), bfr h x < r → x < h.n → T59 h pl true x = h.at' x
  | 0, x, h0, _ => absurd h0 (Nat.not_lt_zero _)
  | r + 1, x, h0, hx => by
    have B := T59_beg h pl true
    rcases prev_or h.n h.at' pl.p x with h1 | ⟨m, h1⟩
    · exact B.first x hx h1
    · have e := B.next x m hx h1
      obtain ⟨⟨hm, hb, hp⟩, _⟩ := h1
      have ih := TL_right hv hr r m (by have := bfr_lt hm hb; omega) hm
      rw [ih] at e
      have hc : h.can true m x = true := by
        rcases HD.apart_false.1 (hr m x hm hx rfl rfl (fun q => befo_irr (q ▸ hb)) hp) with c | c
        · exact c
        · have := HD.can_at hv hx hm c
          unfold befo at hb
          omega
      rw [HD.can_iff] at hc
      rw [e]
      unfold thH HD.there
      omega
end Go.Proofs.Ytgofhjihkinknaa
/-
  Contracts: truly, the next move.
-/
namespace Go.Proofs.Ytgofhjihkinknaa
open Go Go.Sy Kuhn
set_option linter.unusedSimpArgs false
set_option maxRecDepth 100000
set_option maxHeartbeats 4000000
attribute [local irreducible] CallP CodeP Ent YieldP
attribute [local irreducible] HD.ch maskO

def pl35_9s : Plan := .eager 0 <| .eager 1 <| .eager 2 <| .alt 3 (.eager 4 <| .eager 5 <| .eager 6 <| .eager 7 <| .eager 8 <| .eager 9 <| .eager 10 <| .eager 11 <| .eager 12 <| .eager 13 <| .eager 14 <| .eager 15 <| .eager 16 <| .eager 17 <| .eager 18 <| .eager 19 <| .done) .no
def pl35_15s : Plan := .eager 0 <| .eager 1 <| .eager 2 <| .eager 3 <| .eager 4 <| .eager 6 <| .eager 7 <| .eager 8 <| .eager 10 <| .eager 11 <| .eager 12 <| .eager 13 <| .eager 15 <| .eager 16 <| .eager 17 <| .alt 5 (.alt 9 (.eager 14 <| .alt 18 (.eager 19 <| .eager 20 <| .eager 21 <| .alt 22 (.done) .no) .no) (.alt 18 (.alt 9 (.eager 14 <| .eager 19 <| .eager 20 <| .eager 21 <| .alt 22 (.done) .no) .no) .no)) (.alt 9 (.eager 14 <| .alt 5 (.alt 18 (.eager 19 <| .eager 20 <| .eager 21 <| .alt 22 (.done) .no) .no) (.alt 18 (.eager 19 <| .alt 5 (.eager 20 <| .eager 21 <| .alt 22 (.done) .no) .no) .no)) (.alt 18 (.alt 5 (.alt 9 (.eager 14 <| .eager 19 <| .eager 20 <| .eager 21 <| .alt 22 (.done) .no) .no) (.alt 9 (.eager 14 <| .eager 19 <| .alt 5 (.eager 20 <| .eager 21 <| .alt 22 (.done) .no) .no) .no)) .no))
/-- Is a move done? -/
def dn (o : Nat → Nat) (j k : Nat) : Bool := (List.range j).any fun i => decide (o i = k)
theorem dn_iff {o : Nat → Nat} {j k : Nat} : dn o j k = true ↔ ∃ i, i < j ∧ o i = k := by
  simp [dn]
theorem dn_no {o : Nat → Nat} {j k : Nat} : dn o j k = false ↔ ∀ i, i < j → o i ≠ k := by
  cases c : dn o j k with
  | false =>
    refine ⟨fun _ i hi e => ?_, fun _ => rfl⟩
    rw [dn_iff.2 ⟨i, hi, e⟩] at c
    cases c
  | true =>
    obtain ⟨i, hi, e⟩ := dn_iff.1 c
    exact ⟨fun q => (nomatch q), fun q => absurd e (q i hi)⟩
def outF (o : Nat → Nat) (T : Nat → Int) (j k : Nat) : Int := match dn o j k with | true => T k | false => 0
def NextIs (h : HD) (o : Nat → Nat) (j i : Nat) : Option Nat → Prop
  | none => ∀ m, m < i → dn o j m = true
  | some m => (m < i ∧ dn o j m = false) ∧ ∀ m', m' < i → dn o j m' = false → m' = m ∨ befo h.at' m m'
theorem next_done {h : HD} {o : Nat → Nat} {j i : Nat} {w : Option Nat} (H : NextIs h o j i w) (hd : dn o j i = true) : NextIs h o j (i + 1) w := by
  cases w with
  | none =>
    intro m hm
    by_cases c : m = i
    · rw [c]; exact hd
    · exact H m (by omega)
  | some m =>
    obtain ⟨⟨a, b⟩, c⟩ := H
    refine ⟨⟨by omega, b⟩, fun m' hm' hd' => ?_⟩
    by_cases q : m' = i
    · rw [q, hd] at hd'
      cases hd'
    · exact c m' (by omega) hd'
theorem next_new {h : HD} {o : Nat → Nat} {j i : Nat} (H : NextIs h o j i none) (hd : dn o j i = false) : NextIs h o j (i + 1) (some i) := by
  refine ⟨⟨by omega, hd⟩, fun m' hm' hd' => ?_⟩
  by_cases q : m' = i
  · exact .inl q
  · rw [H m' (by omega)] at hd'
    cases hd'
theorem next_less {h : HD} {o : Nat → Nat} {j i m : Nat} (H : NextIs h o j i (some m)) (hd : dn o j i = false) (hl : h.at' i < h.at' m) : NextIs h o j (i + 1) (some i) := by
  obtain ⟨⟨a, b⟩, c⟩ := H
  refine ⟨⟨by omega, hd⟩, fun m' hm' hd' => ?_⟩
  by_cases q : m' = i
  · exact .inl q
  · right
    rcases c m' (by omega) hd' with rfl | x
    · exact .inl hl
    · unfold befo at x ⊢
      omega
theorem next_more {h : HD} {o : Nat → Nat} {j i m : Nat} (H : NextIs h o j i (some m)) (hl : ¬ h.at' i < h.at' m) : NextIs h o j (i + 1) (some m) := by
  obtain ⟨⟨a, b⟩, c⟩ := H
  refine ⟨⟨by omega, b⟩, fun m' hm' hd' => ?_⟩
  by_cases q : m' = i
  · right
    subst q
    unfold befo
    omega
  · exact c m' (by omega) hd'
theorem next_is {h : HD} {j : Nat} {w : Option Nat} (hj : j < h.n) (H : NextIs h (srtF h.at' h.n) j h.n w) : w = some (srtF h.at' h.n j) := by
  obtain ⟨h1, _, h3⟩ := srtF_ok h.at' h.n
  have hdj : dn (srtF h.at' h.n) j (srtF h.at' h.n j) = false := dn_no.2 fun i hi => srt_inj hi hj
  cases w with
  | none =>
    have := H _ (srt_lt hj)
    rw [hdj] at this
    cases this
  | some m =>
    obtain ⟨⟨a, b⟩, c⟩ := H
    obtain ⟨i, hi, e⟩ := (h3 m).2 a
    have hij : ¬ i < j := fun q => dn_no.1 b i q e
    rcases c _ (srt_lt hj) hdj with q | q
    · rw [q]
    · by_cases z : i = j
      · rw [← z, e]
      · have := h1 j i (by omega) hi
        rw [e] at this
        exact (befo_irr (befo_tr this q)).elim
theorem dn_succ {o : Nat → Nat} {j k : Nat} : dn o (j + 1) k = (dn o j k || decide (o j = k)) := by
  unfold dn
  rw [List.range_succ, List.any_append]
  simp
theorem dn_eq {o : Nat → Nat} {j ix k : Nat} (hix : ix = o j) : (k = ix → dn o (j + 1) k = true) ∧ (¬ k = ix → dn o (j + 1) k = dn o j k) := by
  rw [dn_succ]
  constructor
  · intro e
    rw [decide_eq_true (by rw [e, hix])]
    simp
  · intro e
    rw [decide_eq_false (fun q => e (by rw [hix, q]))]
    simp
theorem row_dn {o : Nat → Nat} {j ix : Nat} (hix : ix = o j) (k : Nat) : selL (decide (k = ix)) (splice [SV.bool (dn o j ix)] 0 [ofVal (Value.bool true)]) [SV.bool (dn o j k)] = [SV.bool (dn o (j + 1) k)] := by
  obtain ⟨d1, d2⟩ := dn_eq (k := k) hix
  by_cases c : k = ix
  · rw [decide_eq_true c, selL_true, d1 c]
    rfl
  · rw [decide_eq_false c, selL_false, d2 c]
theorem row_out1 {o : Nat → Nat} {T : Nat → Int} {j ix : Nat} (hix : ix = o j) (a : Int) (ha : a = T (o j)) (k : Nat) : selL (decide (k = ix)) (splice [SV.int .i64 (outF o T j ix)] 0 [SV.int .i64 a]) [SV.int .i64 (outF o T j k)] = [SV.int .i64 (outF o T (j + 1) k)] := by
  obtain ⟨d1, d2⟩ := dn_eq (k := k) hix
  unfold outF
  by_cases c : k = ix
  · rw [decide_eq_true c, selL_true, d1 c, ha, c, hix]
    rfl
  · rw [decide_eq_false c, selL_false, d2 c]
theorem row_out {o : Nat → Nat} {T : Nat → Int} {j ix : Nat} (hix : ix = o j) (a V : Int) (hV : V = T (o j)) (k : Nat) : selL (decide (k = ix)) (splice (selL (decide (ix = ix)) (splice [SV.int .i64 (outF o T j ix)] 0 [SV.int .i64 a]) [SV.int .i64 (outF o T j ix)]) 0 [SV.int .i64 V]) (selL (decide (k = ix)) (splice [SV.int .i64 (outF o T j ix)] 0 [SV.int .i64 a]) [SV.int .i64 (outF o T j k)]) = [SV.int .i64 (outF o T (j + 1) k)] := by
  obtain ⟨d1, d2⟩ := dn_eq (k := k) hix
  by_cases c : k = ix
  · rw [decide_eq_true c, selL_true, decide_eq_true (rfl : ix = ix), selL_true, hV]
    have e : outF o T (j + 1) k = T (o j) := by
      unfold outF
      rw [d1 c, c, hix]
    rw [e]
    rfl
  · rw [decide_eq_false c, selL_false, selL_false]
    have e : outF o T (j + 1) k = outF o T j k := by
      unfold outF
      rw [d2 c]
    rw [e]
def H35 (h : HD) (pl lg : PD) (o : Nat → Nat) (T : Nat → Int) (j : Nat) (M : List (Int × Int)) : SHeap := HD.H h ++ [some (.roa 1 pl.n (PD.F pl)), some (.roa 1 lg.n (PD.F lg)), some (.roc (bc h)), some (.arr 1 h.n h.n fun k => [.int .i64 (outF o T j k)]), some (.arr 1 h.n h.n fun k => [.bool (dn o j k)]), some (.cmap M)]
theorem lookF {M : List (Int × Int)} {x : Int} {v : Option Int} (h : fget M x = v) : aval M x = v.getD 0 ∧ ahas M x = v.isSome := by
  rw [aval_f, ahas_f, h]
  exact ⟨rfl, rfl⟩
noncomputable def T35 (h : HD) (pl lg : PD) : Tm := mkT [] [(1, .osl pl.b 1 1 pl.n pl.cap), (2, .osl lg.b 2 1 lg.n lg.cap), (3, .ptr 3 0), (7, .slice 4 1 0 h.n h.n), (8, .slice 5 1 0 h.n h.n)] 0 (List.replicate 108 none)
def G35 (h : HD) (pl lg : PD) : SHeap := HD.H h ++ [some (.roa 1 pl.n (PD.F pl)), some (.roa 1 lg.n (PD.F lg)), some (.cells (bc h)), some (.arr 1 h.n h.n fun _ => [.int .i64 0]), some (.arr 1 h.n h.n fun _ => [.bool false])]
theorem seg35 (h : HD) (hv : h.Valid) (pl lg : PD) (hpl : pok h pl = true) (hlg : lg.n = h.n) (hl : LgOk h lg.p) : CodeP Try.prog none 3 (sufC Try.f35 2) ⟨T35 h pl lg, G35 h pl lg, []⟩
    (KRet E Try.f35 3 (.slice 3 1 0 h.n h.n) (HD.H h ++ [some (.roa 1 pl.n (PD.F pl)), some (.roa 1 lg.n (PD.F lg)), some (.arr 1 h.n h.n fun k => [.int .i64 (TL h pl lg.p k)])])) := by
  have hn := hv.2.1
  have hpn : pl.n = h.n := by
    unfold pok at hpl
    simp only [Bool.and_eq_true, decide_eq_true_eq] at hpl
    exact hpl.1
  obtain ⟨o, eo⟩ : ∃ o, o = srtF h.at' h.n := ⟨_, rfl⟩
  obtain ⟨T, eT⟩ : ∃ T, T = TL h pl lg.p := ⟨_, rfl⟩
  have oval : ∀ i, i < h.n → T (o i) = match lastI pl.p o i (pl.p (o i)) with
    | none => h.at' (o i)
    | some i' => max (h.at' (o i)) (T (o i') + lg.p (o i') + h.pace * h.dist (o i') (o i)) := fun i hi => by
    rw [eo, eT]
    exact TL_val hi
  have olt : ∀ i, i < h.n → o i < h.n := fun i hi => by rw [eo]; exact srt_lt hi
  have oall : ∀ k, k < h.n → dn o h.n k = true := fun k hk => by
    obtain ⟨i, hi, e⟩ := ((srtF_ok h.at' h.n).2.2 k).2 hk
    rw [eo]
    exact dn_iff.2 ⟨i, hi, e⟩
  have hT : ∀ k, k < h.n → 0 ≤ T k ∧ T k ≤ 970 := fun k hk => by rw [eT]; exact TL_all hv hl hk
  have nxt := fun j w (hj : j < h.n) (H : NextIs h o j h.n w) => next_is (h := h) (j := j) (w := w) hj (by rw [← eo]; exact H)
  rw [← eo] at nxt
  rw [← eT]
  refine codeP_XK E_ok 100 ?_
  (repeat' (first | exact trivial | exact fun _ => rfl | exact rfl | refine And.intro ?_ ?_))
  refine loopP E_ok [1, 2, 3, 7, 8, 9, 23] (fun g : Nat × List (Int × Int) => [(24, .int .i64 g.1)]) (fun g _ => H35 h pl lg o T g.1 g.2) (fun g => g.1 ≤ h.n ∧ ∀ x : Int, fget g.2 x = (lastI pl.p o g.1 x).map fun i => ((o i : Nat) : Int)) (fun g => h.n - g.1) (0, []) ⟨Nat.zero_le _, fun x => rfl⟩ ?_ ?_
  · exact ent_tau [0, 1, 2, 3, 4, 5, 6] ⟨by (repeat' (first | exact trivial | exact rfl | exact fun _ _ => rfl | exact fun _ _ _ _ => rfl | exact Or.inl rfl | exact Or.inr rfl | refine And.intro ?_ ?_)), by (repeat' (first | exact trivial | exact rfl | exact congrArg (SV.int .i64) (Int.natCast_succ _).symm | exact congrArg (SV.int .u64) (Int.natCast_succ _).symm | refine And.intro ?_ ?_)), rfl⟩
  rintro ⟨j, M⟩ ⟨hj, hM⟩
  simp only at hj hM
  refine And.intro ?_ (And.intro (fun hlt => ?_) (fun hlt => ?_))
  · (repeat' (first | exact trivial | exact fun _ => rfl | exact rfl | refine And.intro ?_ ?_))
  · have hlt' : j < h.n := by
      have := of_decide_eq_true hlt
      simp only at this
      omega
    (repeat' (first | exact trivial | exact fun _ => rfl | exact rfl | refine And.intro ?_ ?_))
    refine loopP E_ok [1, 2, 3, 7, 8, 9, 23, 24, 27, 28] (fun g : Nat × Option Nat => [(10, .int .i64 (lastV g.2)), (29, .int .i64 g.1)]) (fun _ _ => H35 h pl lg o T j M) (fun g => g.1 ≤ h.n ∧ NextIs h o j g.1 g.2) (fun g => h.n - g.1) (0, none) ⟨Nat.zero_le _, fun m hm => absurd hm (Nat.not_lt_zero m)⟩ ?_ ?_
    · exact ent_tau [0, 1, 2, 3, 4, 5, 6] ⟨by (repeat' (first | exact trivial | exact rfl | exact fun _ _ => rfl | exact fun _ _ _ _ => rfl | exact Or.inl rfl | exact Or.inr rfl | refine And.intro ?_ ?_)), by (repeat' (first | exact trivial | exact rfl | exact congrArg (SV.int .i64) (Int.natCast_succ _).symm | exact congrArg (SV.int .u64) (Int.natCast_succ _).symm | refine And.intro ?_ ?_)), rfl⟩
    rintro ⟨i, w⟩ ⟨hi, hw⟩
    simp only at hi hw
    refine And.intro ?_ (And.intro (fun hli => ?_) (fun hli => ?_))
    · (repeat' (first | exact trivial | exact fun _ => rfl | exact rfl | refine And.intro ?_ ?_))
    · have hli' : i < h.n := by
        have := of_decide_eq_true hli
        simp only at this
        omega
      have ei := z1 i
      obtain ⟨d, hd⟩ : ∃ d, dn o j i = d := ⟨_, rfl⟩
      cases w with
      | none =>
        (repeat' (first | exact trivial | exact fun _ => rfl | exact rfl | refine And.intro ?_ ?_))
        all_goals first | (first | omega | exact u0 (by omega) | exact u1 (by omega) | exact u1 ⟨by omega, by omega⟩ | exact un (by omega) | exact fun hh => hh | exact fun hh => absurd hh (by decide) | exact fun hh => congrArg not hh | exact fun hh => Bool.noConfusion (show true = false from hh) | exact fun hh => Bool.noConfusion (show false = true from hh)) | skip
        refine drawP E_ok [3, 7] pl35_9s (by kernel_rfl) ?_
        (repeat' (first | exact trivial | exact fun _ => rfl | exact rfl | refine And.intro ?_ ?_))
        all_goals first | exact True.intro | omega | exact u1 (lt64 (by omega)) | exact u0 (lt64 (by omega)) | (show under _ _; simp [under, gB, wB]; done) | (show under _ _; simp [under, gB, wB]; omega) | skip
        all_goals first | (show under _ _; simp [under, gB, wB, lastV]; done) | skip
        · intro hx
          have hd2 : dn o j i = false := by
            cases d with
            | false => exact hd
            | true =>
              exfalso
              revert hx
              simp [ei, hd, lastV]
          (repeat' (first | exact trivial | exact fun _ => rfl | exact rfl | refine And.intro ?_ ?_))
          all_goals first | exact True.intro | omega | exact u1 (lt64 (by omega)) | exact u0 (lt64 (by omega)) | (show under _ _; simp [under, gB, wB]; done) | (show under _ _; simp [under, gB, wB]; omega) | skip
          refine ⟨(i + 1, some i), ⟨hli', next_new hw hd2⟩, by simp only; omega, ?_⟩
          exact ent_tau [0, 1, 2, 3, 4, 5, 6] ⟨by (repeat' (first | exact trivial | exact rfl | exact fun _ _ => rfl | exact fun _ _ _ _ => rfl | exact Or.inl rfl | exact Or.inr rfl | refine And.intro ?_ ?_)), by (repeat' (first | exact trivial | exact rfl | exact congrArg (SV.int .i64) (Int.natCast_succ _).symm | exact congrArg (SV.int .u64) (Int.natCast_succ _).symm | refine And.intro ?_ ?_)), rfl⟩
        · intro hx
          have hd2 : dn o j i = true := by
            cases d with
            | true => exact hd
            | false =>
              exfalso
              revert hx
              simp [ei, hd, lastV]
          (repeat' (first | exact trivial | exact fun _ => rfl | exact rfl | refine And.intro ?_ ?_))
          all_goals first | exact True.intro | omega | exact u1 (lt64 (by omega)) | exact u0 (lt64 (by omega)) | (show under _ _; simp [under, gB, wB]; done) | (show under _ _; simp [under, gB, wB]; omega) | skip
          refine ⟨(i + 1, none), ⟨hli', next_done hw hd2⟩, by simp only; omega, ?_⟩
          exact ent_tau [0, 1, 2, 3, 4, 5, 6] ⟨by (repeat' (first | exact trivial | exact rfl | exact fun _ _ => rfl | exact fun _ _ _ _ => rfl | exact Or.inl rfl | exact Or.inr rfl | refine And.intro ?_ ?_)), by (repeat' (first | exact trivial | exact rfl | exact congrArg (SV.int .i64) (Int.natCast_succ _).symm | exact congrArg (SV.int .u64) (Int.natCast_succ _).symm | refine And.intro ?_ ?_)), rfl⟩
      | some m =>
        have hm : m < i := hw.1.1
        have em := z1 m
        have l1 : 0 + (lastV (i, some m).snd).toNat < h.n := by show 0 + ((m : Nat) : Int).toNat < h.n; omega
        have l2 : lastV (i, some m).snd < (h.n : Nat) := by show (m : Int) < (h.n : Nat); omega
        have l0 : 0 ≤ lastV (i, some m).snd := by show (0 : Int) ≤ (m : Int); omega
        have l3 : ¬ ((m : Nat) : Int) < 0 := by omega
        (repeat' (first | exact trivial | exact fun _ => rfl | exact rfl | refine And.intro ?_ ?_))
        all_goals first | (first | omega | exact u0 (by omega) | exact u1 (by omega) | exact u1 ⟨by omega, by omega⟩ | exact un (by omega) | exact fun hh => hh | exact fun hh => absurd hh (by decide) | exact fun hh => congrArg not hh | exact fun hh => Bool.noConfusion (show true = false from hh) | exact fun hh => Bool.noConfusion (show false = true from hh)) | skip
        refine drawP E_ok [3, 7] pl35_9s (by kernel_rfl) ?_
        (repeat' (first | exact trivial | exact fun _ => rfl | exact rfl | refine And.intro ?_ ?_))
        all_goals first | exact True.intro | omega | exact u1 (lt64 (by omega)) | exact u0 (lt64 (by omega)) | (show under _ _; simp [under, gB, wB]; done) | (show under _ _; simp [under, gB, wB]; omega) | skip
        all_goals first | exact fun _ => l0 | exact fun _ => l1 | exact fun _ => l2 | (show under _ _; simp [under, gB, wB, lastV, l3]; done) | skip
        · intro hx
          have hd2 : dn o j i = false := by
            cases d with
            | false => exact hd
            | true =>
              exfalso
              revert hx
              simp [ei, hd, lastV]
          have hl2 : h.at' i < h.at' m := by
            by_cases c : h.at' i < h.at' m
            · exact c
            · exfalso
              revert hx
              simp [ei, em, hd2, lastV, l3, c]
          (repeat' (first | exact trivial | exact fun _ => rfl | exact rfl | refine And.intro ?_ ?_))
          all_goals first | exact True.intro | omega | exact u1 (lt64 (by omega)) | exact u0 (lt64 (by omega)) | (show under _ _; simp [under, gB, wB]; done) | (show under _ _; simp [under, gB, wB]; omega) | skip
          refine ⟨(i + 1, some i), ⟨hli', next_less hw hd2 hl2⟩, by simp only; omega, ?_⟩
          exact ent_tau [0, 1, 2, 3, 4, 5, 6] ⟨by (repeat' (first | exact trivial | exact rfl | exact fun _ _ => rfl | exact fun _ _ _ _ => rfl | exact Or.inl rfl | exact Or.inr rfl | refine And.intro ?_ ?_)), by (repeat' (first | exact trivial | exact rfl | exact congrArg (SV.int .i64) (Int.natCast_succ _).symm | exact congrArg (SV.int .u64) (Int.natCast_succ _).symm | refine And.intro ?_ ?_)), rfl⟩
        · intro hx
          by_cases hd2 : dn o j i = true
          · (repeat' (first | exact trivial | exact fun _ => rfl | exact rfl | refine And.intro ?_ ?_))
            all_goals first | exact True.intro | omega | exact u1 (lt64 (by omega)) | exact u0 (lt64 (by omega)) | (show under _ _; simp [under, gB, wB]; done) | (show under _ _; simp [under, gB, wB]; omega) | skip
            refine ⟨(i + 1, some m), ⟨hli', next_done hw hd2⟩, by simp only; omega, ?_⟩
            exact ent_tau [0, 1, 2, 3, 4, 5, 6] ⟨by (repeat' (first | exact trivial | exact rfl | exact fun _ _ => rfl | exact fun _ _ _ _ => rfl | exact Or.inl rfl | exact Or.inr rfl | refine And.intro ?_ ?_)), by (repeat' (first | exact trivial | exact rfl | exact congrArg (SV.int .i64) (Int.natCast_succ _).symm | exact congrArg (SV.int .u64) (Int.natCast_succ _).symm | refine And.intro ?_ ?_)), rfl⟩
          · have hl2 : ¬ h.at' i < h.at' m := by
              intro c
              have hd3 : dn o j i = false := by simpa using hd2
              revert hx
              simp [ei, em, hd3, lastV, l3, c]
            (repeat' (first | exact trivial | exact fun _ => rfl | exact rfl | refine And.intro ?_ ?_))
            all_goals first | exact True.intro | omega | exact u1 (lt64 (by omega)) | exact u0 (lt64 (by omega)) | (show under _ _; simp [under, gB, wB]; done) | (show under _ _; simp [under, gB, wB]; omega) | skip
            refine ⟨(i + 1, some m), ⟨hli', next_more hw hl2⟩, by simp only; omega, ?_⟩
            exact ent_tau [0, 1, 2, 3, 4, 5, 6] ⟨by (repeat' (first | exact trivial | exact rfl | exact fun _ _ => rfl | exact fun _ _ _ _ => rfl | exact Or.inl rfl | exact Or.inr rfl | refine And.intro ?_ ?_)), by (repeat' (first | exact trivial | exact rfl | exact congrArg (SV.int .i64) (Int.natCast_succ _).symm | exact congrArg (SV.int .u64) (Int.natCast_succ _).symm | refine And.intro ?_ ?_)), rfl⟩
    · have e : i = h.n := by
        have := of_decide_eq_false hli
        simp only at this
        omega
      subst e
      have hw2 := nxt j w hlt' hw
      subst hw2
      have ojn := olt j hlt'
      have eoj := z1 (o j)
      have ov := oval j hlt'
      have ix : 0 + (lastV (h.n, some (o j)).snd).toNat = o j := eoj
      have l0 : 0 ≤ lastV (h.n, some (o j)).snd := by show (0 : Int) ≤ ((o j : Nat) : Int); omega
      have l1 : 0 + (lastV (h.n, some (o j)).snd).toNat < h.n := by rw [ix]; exact ojn
      have l1p : 0 + (lastV (h.n, some (o j)).snd).toNat < pl.n := by rw [hpn]; exact l1
      have l2 : lastV (h.n, some (o j)).snd < (h.n : Nat) := by show ((o j : Nat) : Int) < (h.n : Nat); omega
      have l2p : lastV (h.n, some (o j)).snd < (pl.n : Nat) := by rw [hpn]; exact l2
      have hM' : ∀ x : Int, fget (aset M (pl.p (0 + (lastV (h.n, some (o j)).snd).toNat)) (lastV (h.n, some (o j)).snd)) x = (lastI pl.p o (j + 1) x).map fun i => ((o i : Nat) : Int) := fun x => by
        rw [aset_f, fget_set, ix]
        show _ = (if pl.p (o j) = x then some j else lastI pl.p o j x).map _
        by_cases c : pl.p (o j) = x
        · rw [if_pos c, if_pos c.symm]
          rfl
        · rw [if_neg c, if_neg (fun q => c q.symm)]
          exact hM x
      have hM0 := lookF (hM (pl.p (0 + (lastV (h.n, some (o j)).snd).toNat)))
      (repeat' (first | exact trivial | exact fun _ => rfl | exact rfl | refine And.intro ?_ ?_))
      all_goals first | (first | omega | exact u0 (by omega) | exact u1 (by omega) | exact u1 ⟨by omega, by omega⟩ | exact un (by omega) | exact fun hh => hh | exact fun hh => absurd hh (by decide) | exact fun hh => congrArg not hh | exact fun hh => Bool.noConfusion (show true = false from hh) | exact fun hh => Bool.noConfusion (show false = true from hh)) | (show under none _; first | exact u0 l0 | exact u0 l1 | exact u0 l1p | exact u0 l2 | exact u0 l2p) | skip
      · intro hx
        obtain ⟨i', hli⟩ : ∃ i', lastI pl.p o j (pl.p (o j)) = some i' := by
          cases hc : lastI pl.p o j (pl.p (o j)) with
          | some i' => exact ⟨i', rfl⟩
          | none =>
            exfalso
            have h2 := hM0.2
            rw [ix, hc] at h2
            have hx2 : ahas M (pl.p (0 + (lastV (h.n, some (o j)).snd).toNat)) = true := hx
            rw [ix, h2] at hx2
            cases hx2
        have hij : i' < j := by
          rcases lastI_ok pl.p o (pl.p (o j)) j with ⟨q, _⟩ | ⟨i2, q1, q2, _⟩
          · rw [q] at hli
            cases hli
          · rw [q1] at hli
            cases hli
            exact q2
        have ea : aval M (pl.p (0 + (lastV (h.n, some (o j)).snd).toNat)) = ((o i' : Nat) : Int) := by
          rw [hM0.1, ix, hli]
          rfl
        have oi := olt i' (by omega)
        have a0 : 0 ≤ aval M (pl.p (0 + (lastV (h.n, some (o j)).snd).toNat)) := by rw [ea]; omega
        have a1 : aval M (pl.p (0 + (lastV (h.n, some (o j)).snd).toNat)) < (h.n : Nat) := by rw [ea]; omega
        have a1g : aval M (pl.p (0 + (lastV (h.n, some (o j)).snd).toNat)) < (lg.n : Nat) := by rw [hlg]; exact a1
        have ax : 0 + (aval M (pl.p (0 + (lastV (h.n, some (o j)).snd).toNat))).toNat = o i' := by rw [ea]; exact z1 _
        have a2 : 0 + (aval M (pl.p (0 + (lastV (h.n, some (o j)).snd).toNat))).toNat < h.n := by rw [ax]; exact oi
        have a2g : 0 + (aval M (pl.p (0 + (lastV (h.n, some (o j)).snd).toNat))).toNat < lg.n := by rw [hlg]; exact a2
        have hne : o i' ≠ o j := by rw [eo]; exact srt_inj hij hlt'
        have eB : (bif decide (0 + (aval M (pl.p (0 + (lastV (h.n, some (o j)).snd).toNat))).toNat = 0 + (lastV (h.n, some (o j)).snd).toNat) then h.at' (0 + (lastV (h.n, some (o j)).snd).toNat) else outF o T j (0 + (aval M (pl.p (0 + (lastV (h.n, some (o j)).snd).toNat))).toNat)) = T (o i') := by
          rw [ax, ix, decide_eq_false hne, cond_false]
          unfold outF
          rw [dn_iff.2 ⟨i', hij, rfl⟩]
        have hTi := hT _ oi
        have hlo := hl _ oi
        have mi := (hv.2.2 _ oi).2.2
        have w0 := HD.walk_nonneg hv (o i') (o j)
        have w1 := HD.walk_le hv oi ojn
        rw [hli] at ov
        simp only at ov
        have eC : (bif decide (0 + (lastV (h.n, some (o j)).snd).toNat = 0 + (lastV (h.n, some (o j)).snd).toNat) then h.at' (0 + (lastV (h.n, some (o j)).snd).toNat) else outF o T j (0 + (lastV (h.n, some (o j)).snd).toNat)) = h.at' (o j) := by
          rw [decide_eq_true rfl, cond_true, ix]
        have hV : (if (bif decide (0 + (aval M (pl.p (0 + (lastV (h.n, some (o j)).snd).toNat))).toNat = 0 + (lastV (h.n, some (o j)).snd).toNat) then h.at' (0 + (lastV (h.n, some (o j)).snd).toNat) else outF o T j (0 + (aval M (pl.p (0 + (lastV (h.n, some (o j)).snd).toNat))).toNat)) + lg.p (0 + (aval M (pl.p (0 + (lastV (h.n, some (o j)).snd).toNat))).toNat) + h.pace * h.dist (o i') (o j) > (bif decide (0 + (lastV (h.n, some (o j)).snd).toNat = 0 + (lastV (h.n, some (o j)).snd).toNat) then h.at' (0 + (lastV (h.n, some (o j)).snd).toNat) else outF o T j (0 + (lastV (h.n, some (o j)).snd).toNat)) then (bif decide (0 + (aval M (pl.p (0 + (lastV (h.n, some (o j)).snd).toNat))).toNat = 0 + (lastV (h.n, some (o j)).snd).toNat) then h.at' (0 + (lastV (h.n, some (o j)).snd).toNat) else outF o T j (0 + (aval M (pl.p (0 + (lastV (h.n, some (o j)).snd).toNat))).toNat)) + lg.p (0 + (aval M (pl.p (0 + (lastV (h.n, some (o j)).snd).toNat))).toNat) + h.pace * h.dist (o i') (o j) else (bif decide (0 + (lastV (h.n, some (o j)).snd).toNat = 0 + (lastV (h.n, some (o j)).snd).toNat) then h.at' (0 + (lastV (h.n, some (o j)).snd).toNat) else outF o T j (0 + (lastV (h.n, some (o j)).snd).toNat))) = T (o j) := by
          rw [eB, eC, ax, ov]
          split <;> omega
        have c36 := t36 h hv (o i') (o j) oi ojn
        rw [← ea] at c36
        (repeat' (first | exact trivial | exact fun _ => rfl | exact rfl | refine And.intro ?_ ?_))
        refine drawP E_ok [3] pl35_15s (by kernel_rfl) ?_
        (repeat' (first | exact trivial | exact fun _ => rfl | exact rfl | refine And.intro ?_ ?_))
        all_goals first | (first | omega | exact u0 (by omega) | exact u1 (by omega) | exact u1 ⟨by omega, by omega⟩ | exact un (by omega) | exact fun hh => hh | exact fun hh => absurd hh (by decide) | exact fun hh => congrArg not hh | exact fun hh => Bool.noConfusion (show true = false from hh) | exact fun hh => Bool.noConfusion (show false = true from hh)) | (show under none _; first | exact u0 l0 | exact u0 l1 | exact u0 l1p | exact u0 l2 | exact u0 l2p | exact u0 a0 | exact u0 a1 | exact u0 a1g | exact u0 a2 | exact u0 a2g) | (show (_ : Int) ≤ _; rw [eB, ax]; omega) | skip
        all_goals refine c36.use [0] ?_ (by (repeat' (first | exact trivial | exact rfl | exact fun _ _ => rfl | exact fun _ _ _ _ => rfl | exact Or.inl rfl | exact Or.inr rfl | refine And.intro ?_ ?_))) rfl
        all_goals (repeat' (first | exact trivial | exact fun _ => rfl | exact rfl | refine And.intro ?_ ?_))
        all_goals first | (first | omega | exact u0 (by omega) | exact u1 (by omega) | exact u1 ⟨by omega, by omega⟩ | exact un (by omega) | exact fun hh => hh | exact fun hh => absurd hh (by decide) | exact fun hh => congrArg not hh | exact fun hh => Bool.noConfusion (show true = false from hh) | exact fun hh => Bool.noConfusion (show false = true from hh)) | (show under none _; first | exact u0 l0 | exact u0 l1 | exact u0 l1p | exact u0 l2 | exact u0 l2p | exact u0 a0 | exact u0 a1 | exact u0 a1g | exact u0 a2 | exact u0 a2g) | (show (_ : Int) ≤ _; rw [eB, ax]; omega) | skip
        all_goals refine ⟨(j + 1, aset M (pl.p (0 + (lastV (h.n, some (o j)).snd).toNat)) (lastV (h.n, some (o j)).snd)), ⟨hlt', hM'⟩, by simp only; omega, ?_⟩
        all_goals refine ent_tau [0, 1, 2, 3, 4, 5, 6] ⟨?_, by (repeat' (first | exact trivial | exact rfl | exact congrArg (SV.int .i64) (Int.natCast_succ _).symm | exact congrArg (SV.int .u64) (Int.natCast_succ _).symm | refine And.intro ?_ ?_)), rfl⟩
        all_goals (repeat' (first | exact trivial | exact rfl | exact fun _ _ => rfl | exact fun _ _ _ _ => rfl | exact Or.inl rfl | exact Or.inr rfl | refine And.intro ?_ ?_))
        all_goals first | exact fun k _ => row_dn ix k | exact fun k _ => row_out ix _ _ hV k
      · intro hx
        have hli : lastI pl.p o j (pl.p (o j)) = none := by
          cases hc : lastI pl.p o j (pl.p (o j)) with
          | none => rfl
          | some i' =>
            exfalso
            have h2 := hM0.2
            rw [ix, hc] at h2
            have hx2 : ahas M (pl.p (0 + (lastV (h.n, some (o j)).snd).toNat)) = false := hx
            rw [ix, h2] at hx2
            cases hx2
        rw [hli] at ov
        simp only at ov
        have hV : h.at' (0 + (lastV (h.n, some (o j)).snd).toNat) = T (o j) := by rw [ix, ov]
        (repeat' (first | exact trivial | exact fun _ => rfl | exact rfl | refine And.intro ?_ ?_))
        all_goals first | (first | omega | exact u0 (by omega) | exact u1 (by omega) | exact u1 ⟨by omega, by omega⟩ | exact un (by omega) | exact fun hh => hh | exact fun hh => absurd hh (by decide) | exact fun hh => congrArg not hh | exact fun hh => Bool.noConfusion (show true = false from hh) | exact fun hh => Bool.noConfusion (show false = true from hh)) | (show under none _; first | exact u0 l0 | exact u0 l1 | exact u0 l1p | exact u0 l2 | exact u0 l2p) | skip
        refine ⟨(j + 1, aset M (pl.p (0 + (lastV (h.n, some (o j)).snd).toNat)) (lastV (h.n, some (o j)).snd)), ⟨hlt', hM'⟩, by simp only; omega, ?_⟩
        refine ent_tau [0, 1, 2, 3, 4, 5, 6] ⟨?_, by (repeat' (first | exact trivial | exact rfl | exact congrArg (SV.int .i64) (Int.natCast_succ _).symm | exact congrArg (SV.int .u64) (Int.natCast_succ _).symm | refine And.intro ?_ ?_)), rfl⟩
        (repeat' (first | exact trivial | exact rfl | exact fun _ _ => rfl | exact fun _ _ _ _ => rfl | exact Or.inl rfl | exact Or.inr rfl | refine And.intro ?_ ?_))
        all_goals first | exact fun k _ => row_dn ix k | exact fun k _ => row_out1 ix _ hV k
  · have e : j = h.n := by
      have := of_decide_eq_false hlt
      simp only at this
      omega
    subst e
    (repeat' (first | exact trivial | exact fun _ => rfl | exact rfl | refine And.intro ?_ ?_))
    refine ent_tau [0, 1, 2, 4] ⟨?_, by (repeat' (first | exact trivial | exact rfl | exact congrArg (SV.int .i64) (Int.natCast_succ _).symm | exact congrArg (SV.int .u64) (Int.natCast_succ _).symm | refine And.intro ?_ ?_)), rfl⟩
    (repeat' (first | exact trivial | exact rfl | exact fun _ _ => rfl | exact fun _ _ _ _ => rfl | exact Or.inl rfl | exact Or.inr rfl | refine And.intro ?_ ?_))
    exact fun k hk => by
      show [SV.int .i64 (outF o T h.n k)] = _
      unfold outF
      rw [oall k hk]
      rfl
end Go.Proofs.Ytgofhjihkinknaa
/-
  Contracts: truly; how long moves truly take.
-/
namespace Go.Proofs.Ytgofhjihkinknaa
open Go Go.Sy Kuhn
set_option linter.unusedSimpArgs false
set_option maxRecDepth 100000
set_option maxHeartbeats 4000000
attribute [local irreducible] CallP CodeP Ent YieldP
attribute [local irreducible] HD.ch maskO

theorem t35 (h : HD) (hv : h.Valid) (pl lg : PD) (hpl : pok h pl = true) (hlg : lg.n = h.n) (hl : LgOk h lg.p) : CallP Try.prog 35 [HD.A h, .osl pl.b 1 1 pl.n pl.cap, .osl lg.b 2 1 lg.n lg.cap] (HD.H h ++ [some (.roa 1 pl.n (PD.F pl)), some (.roa 1 lg.n (PD.F lg))])
    (Ret (.slice 3 1 0 h.n h.n) (HD.H h ++ [some (.roa 1 pl.n (PD.F pl)), some (.roa 1 lg.n (PD.F lg)), some (.arr 1 h.n h.n fun k => [.int .i64 (TL h pl lg.p k)])])) := by
  have hn := hv.2.1
  have hpn : pl.n = h.n := by
    unfold pok at hpl
    simp only [Bool.and_eq_true, decide_eq_true_eq] at hpl
    exact hpl.1
  have seg := seg35 h hv pl lg hpl hlg hl
  obtain ⟨pn, pp, pb, pc⟩ := pl
  simp only at hpn
  subst hpn
  refine callRK (E := E) E_ok 2 Try.func35 rfl ?_
  (repeat' (first | exact trivial | exact fun _ => rfl | exact rfl | refine And.intro ?_ ?_))
  refine drawP E_ok [] pl35_1 (by kernel_rfl) ?_
  (repeat' (first | exact trivial | exact fun _ => rfl | exact rfl | refine And.intro ?_ ?_))
  all_goals first | (first | omega | exact u0 (by omega) | exact u1 (by omega) | exact u1 ⟨by omega, by omega⟩ | exact un (by omega) | exact fun hh => hh | exact fun hh => absurd hh (by decide) | exact fun hh => congrArg not hh | exact fun hh => Bool.noConfusion (show true = false from hh) | exact fun hh => Bool.noConfusion (show false = true from hh)) | (show ((h.n : Nat) : Int) ≤ _; omega) | (show ((1 : Nat) : Int) * ((h.n : Nat) : Int) ≤ _; omega) | (show ((8 : Nat) : Int) * ((h.n : Nat) : Int) ≤ _; omega) | skip
  all_goals refine CodeP.pre ?_ seg
  · exact ent_tau [0, 1, 2, 3, 4, 5] ⟨by (repeat' (first | exact trivial | exact rfl | exact fun _ _ => rfl | exact fun _ _ _ _ => rfl | exact Or.inl rfl | exact Or.inr rfl | refine And.intro ?_ ?_)), by (repeat' (first | exact trivial | exact rfl | exact congrArg (SV.int .i64) (Int.natCast_succ _).symm | exact congrArg (SV.int .u64) (Int.natCast_succ _).symm | refine And.intro ?_ ?_)), rfl⟩
  · exact ent_tau [0, 1, 2, 3, 5, 4] ⟨by (repeat' (first | exact trivial | exact rfl | exact fun _ _ => rfl | exact fun _ _ _ _ => rfl | exact Or.inl rfl | exact Or.inr rfl | refine And.intro ?_ ?_)), by (repeat' (first | exact trivial | exact rfl | exact congrArg (SV.int .i64) (Int.natCast_succ _).symm | exact congrArg (SV.int .u64) (Int.natCast_succ _).symm | refine And.intro ?_ ?_)), rfl⟩
/-- How long a move truly takes. -/
def mkL (h : HD) (y : PD) (i : Nat) : Int := if y.n = 0 then h.lo i else h.lo i + (y.p (i % y.n)).tmod (h.hi i - h.lo i + 1)
theorem mkL_ok {h : HD} (hv : h.Valid) {y : PD} (hy : BOk y) : LgOk h (mkL h y) := fun i hi => by
  have m := (hv.2.2 i hi).2.2
  unfold mkL
  split
  · omega
  · rename_i hn
    have := hy (i % y.n) (Nat.mod_lt _ (by omega))
    have a := Int.tmod_nonneg (h.hi i - h.lo i + 1) this.1
    have b := Int.tmod_lt_of_pos (y.p (i % y.n)) (show 0 < h.hi i - h.lo i + 1 by omega)
    omega
end Go.Proofs.Ytgofhjihkinknaa
/-
  HorseTrue: plain law.
-/
namespace Go.Proofs.Ytgofhjihkinknaa
open Go Go.Sy Kuhn
set_option linter.unusedSimpArgs false
set_option maxRecDepth 100000
set_option maxHeartbeats 4000000
attribute [local irreducible] CallP CodeP Ent YieldP
attribute [local irreducible] HD.ch maskO

def canT (h : HD) (lg : Nat → Int) (i k : Nat) : Bool := decide (h.at' i + lg i + h.pace * h.dist i k ≤ h.at' k)
def okT (h : HD) (p lg : Nat → Int) (i k : Nat) : Bool := decide (i = k) || (!decide (p i = p k) || (canT h lg i k || canT h lg k i))
def rK (h : HD) (p lg : Nat → Int) (i : Nat) : Nat → Bool
  | 0 => true
  | k + 1 => rK h p lg i k && okT h p lg i k
def rI (h : HD) (p lg : Nat → Int) : Nat → Bool
  | 0 => true
  | i + 1 => rI h p lg i && rK h p lg i h.n
def ut (h : HD) (lg : Nat → Int) (m : Int) : Nat → Int
  | 0 => 0
  | i + 1 => ut h lg m i + if h.at' i ≤ m ∧ m < h.at' i + lg i then 1 else 0
theorem rK_iff {h : HD} {p lg : Nat → Int} {i : Nat} : ∀ {n : Nat}, rK h p lg i n = true ↔ ∀ k, k < n → okT h p lg i k = true
  | 0 => ⟨fun _ k hk => absurd hk (Nat.not_lt_zero k), fun _ => rfl⟩
  | n + 1 => by
    simp only [rK, Bool.and_eq_true, rK_iff (n := n)]
    constructor
    · rintro ⟨a, b⟩ k hk
      by_cases c : k = n
      · rw [c]; exact b
      · exact a k (by omega)
    · exact fun H => ⟨fun k hk => H k (by omega), H n (by omega)⟩
theorem rI_iff {h : HD} {p lg : Nat → Int} : ∀ {n : Nat}, rI h p lg n = true ↔ ∀ i, i < n → ∀ k, k < h.n → okT h p lg i k = true
  | 0 => ⟨fun _ k hk => absurd hk (Nat.not_lt_zero k), fun _ => rfl⟩
  | n + 1 => by
    simp only [rI, Bool.and_eq_true, rI_iff (n := n), rK_iff]
    constructor
    · rintro ⟨a, b⟩ k hk
      by_cases c : k = n
      · rw [c]; exact b
      · exact a k (by omega)
    · exact fun H => ⟨fun k hk => H k (by omega), H n (by omega)⟩
theorem canT_sure {h : HD} {lg : Nat → Int} (hl : LgOk h lg) {i k : Nat} (hi : i < h.n) (hc : h.can true i k = true) : canT h lg i k = true := by
  rw [HD.can_iff] at hc
  have := hl i hi
  simp only [HD.takes] at hc
  exact decide_eq_true (by omega)
theorem canT_some {h : HD} {lg : Nat → Int} (hl : LgOk h lg) {i k : Nat} (hi : i < h.n) (hc : canT h lg i k = true) : h.can false i k = true := by
  have hc := of_decide_eq_true hc
  have := hl i hi
  rw [HD.can_iff]
  simp only [HD.takes]
  omega
theorem right_some {h : HD} {lg p : Nat → Int} (hl : LgOk h lg) (hr : rI h p lg h.n = true) : h.Right false HD.full p := by
  intro i k hi hk _ _ hne e
  have := rI_iff.1 hr i hi k hk
  unfold okT at this
  rw [decide_eq_false hne, decide_eq_true e] at this
  simp only [Bool.not_true, Bool.false_or, Bool.or_eq_true] at this
  rcases this with c | c
  · exact HD.apart_false.2 (.inl (canT_some hl hi c))
  · exact HD.apart_false.2 (.inr (canT_some hl hk c))
theorem sure_right {h : HD} {lg p : Nat → Int} (hl : LgOk h lg) (hr : h.Right true HD.full p) : rI h p lg h.n = true := by
  refine rI_iff.2 fun i hi k hk => ?_
  unfold okT
  by_cases c : i = k
  · rw [decide_eq_true c]; rfl
  · rw [decide_eq_false c]
    by_cases d : p i = p k
    · rw [decide_eq_true d]
      rcases HD.apart_false.1 (hr i k hi hk rfl rfl c d) with q | q
      · rw [canT_sure hl hi q]; rfl
      · rw [canT_sure hl hk q]; simp
    · rw [decide_eq_false d]; rfl
theorem ut_le {h : HD} {lg : Nat → Int} (hl : LgOk h lg) (m : Int) : ∀ i, i ≤ h.n → bz h false m i ≤ ut h lg m i ∧ ut h lg m i ≤ bz h true m i
  | 0, _ => ⟨Int.le_refl _, Int.le_refl _⟩
  | i + 1, hi => by
    have ih := ut_le hl m i (by omega)
    have := hl i (by omega)
    rw [bz, bz, ut]
    simp only [HD.takes]
    by_cases c1 : h.at' i ≤ m ∧ m < h.at' i + h.lo i <;> by_cases c2 : h.at' i ≤ m ∧ m < h.at' i + lg i <;> by_cases c3 : h.at' i ≤ m ∧ m < h.at' i + h.hi i <;> simp only [c1, c2, c3, if_true, if_false] <;> omega
theorem ut_rng (h : HD) (lg : Nat → Int) (m : Int) : ∀ i : Nat, 0 ≤ ut h lg m i ∧ ut h lg m i ≤ i
  | 0 => ⟨Int.le_refl _, Int.le_refl _⟩
  | i + 1 => by
    have := ut_rng h lg m i
    rw [ut]
    split <;> omega
/-- The error that Check tells. -/
noncomputable def ec (h : HD) (s : Bool) (pl : PD) : Int := (HD.chk h s pl).2.2
theorem ec_or {h : HD} (hv : h.Valid) {s : Bool} {pl : PD} (hpl : pok h pl = true) : ec h s pl = 0 ∧ ¬ h.Right s HD.full pl.p ∨ ec h s pl = 4 ∧ h.Right s HD.full pl.p := by
  have hb := rightB_iff hv (s := s) hpl
  unfold rightB at hb
  rw [decide_eq_true_eq] at hb
  have : ec h s pl = 0 ∨ ec h s pl = 4 := by
    unfold ec
    rcases chk_spec hv (s := s) hpl with ⟨a, _⟩ | ⟨_, a, _⟩ | ⟨_, _, c⟩
    · exact absurd hv a
    · rw [hpl] at a
      cases a
    · rcases c with ⟨i, k, _, _, e⟩ | ⟨_, e⟩
      · rw [e]
        exact .inl rfl
      · rw [e]
        exact .inr rfl
  rcases this with e | e
  · refine .inl ⟨e, fun hr => ?_⟩
    have h4 := hb.2 hr
    have : ec h s pl = 4 := h4
    omega
  · exact .inr ⟨e, hb.1 e⟩
theorem right_mono {h : HD} (hv : h.Valid) {p : Nat → Int} (hr : h.Right true HD.full p) : h.Right false HD.full p := by
  intro i k hi hk a b hne e
  rcases HD.apart_false.1 (hr i k hi hk a b hne e) with c | c
  · exact HD.apart_false.2 (.inl (HD.can_sure hv hi c))
  · exact HD.apart_false.2 (.inr (HD.can_sure hv hk c))
end Go.Proofs.Ytgofhjihkinknaa
