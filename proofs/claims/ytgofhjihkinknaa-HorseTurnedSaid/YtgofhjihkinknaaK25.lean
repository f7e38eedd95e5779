/-
  Parts: Qc, Qf, Qe, Qh, Sa, Sg, Sh, Si, Sj, Sk.
-/
import Derived.Test.YtgofhjihkinknaaK22
import Derived.Test.YtgofhjihkinknaaK24
import Derived.Test.YtgofhjihkinknaaK14
set_option linter.unusedVariables false
/-
  Plain law: sets of moves of which no two are one horse's; how many there are.
-/
namespace Go.Proofs.Ytgofhjihkinknaa
open Go Go.Sy Kuhn
set_option linter.unusedSimpArgs false
set_option maxRecDepth 100000
set_option maxHeartbeats 4000000
attribute [local irreducible] CallP CodeP Ent YieldP
attribute [local irreducible] HD.ch maskO

theorem bit_le {S n i : Nat} (hS : S < 2 ^ n) (h : S.testBit i = true) : i < n := by
  by_cases c : i < n
  · exact c
  · rw [Nat.testBit_lt_two_pow (Nat.lt_of_lt_of_le hS (Nat.pow_le_pow_right (by omega) (by omega)))] at h
    cases h
theorem lone_all {h : HD} {s : Bool} {S : Nat} : ∀ {n : Nat}, lone h s S n = true ↔ ∀ i, i < n → S.testBit i = true → sdiff S (2 ^ i) &&& h.ch s i = 0
  | 0 => ⟨fun _ i hi => absurd hi (Nat.not_lt_zero i), fun _ => rfl⟩
  | n + 1 => by
    simp only [lone, Bool.and_eq_true, lone_all (n := n)]
    constructor
    · rintro ⟨a, b⟩ i hi hb
      rcases Nat.lt_succ_iff_lt_or_eq.1 hi with c | rfl
      · exact a i c hb
      · rw [hb] at b
        by_cases c : sdiff S (2 ^ i) &&& h.ch s i = 0
        · exact c
        · rw [decide_eq_false c] at b
          cases b
    · intro H
      refine ⟨fun i hi => H i (by omega), ?_⟩
      cases hb : S.testBit n with
      | false => rfl
      | true =>
        rw [decide_eq_true (H n (by omega) hb)]
        rfl
theorem lone_iff {h : HD} (hn : h.n ≤ 7) {s : Bool} {S : Nat} (hS : S < 2 ^ h.n) : lone h s S h.n = true ↔ h.Alone s (fun i => S.testBit i) := by
  have key : ∀ i, i < h.n → (sdiff S (2 ^ i) &&& h.ch s i = 0 ↔ ∀ k, k < h.n → S.testBit k = true → k ≠ i → h.can s i k = false) := by
    intro i hi
    constructor
    · intro e k hk hb hne
      have := congrArg (fun x => x.testBit k) e
      simp only [Nat.testBit_and, Nat.zero_testBit] at this
      rw [sdiff_bit (by omega), hb, HD.ch_bit, decide_eq_true hi, decide_eq_true hk, Nat.testBit_two_pow, decide_eq_false (by omega)] at this
      simpa using this
    · intro H
      apply Nat.eq_of_testBit_eq
      intro k
      simp only [Nat.testBit_and, Nat.zero_testBit]
      by_cases hk : k < h.n
      · rw [sdiff_bit (by omega), HD.ch_bit, decide_eq_true hi, decide_eq_true hk, Nat.testBit_two_pow]
        by_cases hne : k = i
        · rw [decide_eq_true hne.symm]
          simp
        · cases hb : S.testBit k with
          | false => simp
          | true =>
            rw [H k hk hb hne]
            simp
      · rw [HD.ch_bit, decide_eq_false hk]
        simp
  rw [lone_all]
  constructor
  · intro H i k hi hk bi bk hne
    have a := (key i hi).1 (H i hi bi) k hk bk fun c => hne c.symm
    have b := (key k hk).1 (H k hk bk) i hi bi hne
    unfold HD.apart
    rw [a, b]
    rfl
  · intro H i hi bi
    refine (key i hi).2 fun k hk bk hne => ?_
    have := H i k hi hk bi bk fun c => hne c.symm
    unfold HD.apart at this
    simp only [Bool.and_eq_true] at this
    cases c : h.can s i k
    · rfl
    · rw [c] at this
      simp at this
theorem mask_pop {B : Nat → Bool} {n : Nat} (hn : n ≤ 7) (hB : ∀ i, B i = true → i < n) : pop (maskO B n) = cnt B 7 := by
  unfold pop
  apply cnt_congr
  intro r hr
  rw [maskO_bit]
  cases b : B r with
  | false => simp
  | true => rw [decide_eq_true (hB r b)]; rfl
theorem pop_alone {h : HD} (hv : h.Valid) {s : Bool} {S : Nat} (hS : S < 2 ^ h.n) (ha : h.Alone s (fun i => S.testBit i)) : pop S ≤ h.few s := by
  obtain ⟨p, a, b⟩ := HD.need_plan hv s HD.full
  exact HD.alone_le (ok := HD.full) (fun i hi => ⟨bit_le hS hi, rfl⟩) ha b a
theorem prf_lt (h : HD) (hn : h.n ≤ 7) (s : Bool) : prfS h s < 2 ^ h.n := (prf_ok h hn s).1
theorem prf_alone (h : HD) (hn : h.n ≤ 7) (s : Bool) : h.Alone s (fun i => (prfS h s).testBit i) := (lone_iff hn (prf_lt h hn s)).1 (prf_ok h hn s).2.1
/-- Of other such sets none comes first. -/
theorem prf_best {h : HD} (hn : h.n ≤ 7) {s : Bool} {T : Nat} (hT : T < 2 ^ h.n) (ha : h.Alone s (fun i => T.testBit i)) : prfS h s = T ∨ Prior false (prfS h s) T := (prf_ok h hn s).2.2 T hT ((lone_iff hn hT).2 ha)
theorem prf_pop {h : HD} (hv : h.Valid) (s : Bool) : pop (prfS h s) = h.few s := by
  have hn := hv.2.1
  apply Nat.le_antisymm (pop_alone hv (prf_lt h hn s) (prf_alone h hn s))
  obtain ⟨B, b1, b2, b3⟩ := HD.need_alone hv s HD.full
  have hm := mask_pop hn fun i hi => (b1 i hi).1
  have := prf_best hn (s := s) (maskO_lt B h.n) (fun i k hi hk bi bk hne => b2 i k hi hk (by have bi' : (maskO B h.n).testBit i = true := bi; rw [maskO_bit] at bi'; simp at bi'; exact bi'.2) (by have bk' : (maskO B h.n).testBit k = true := bk; rw [maskO_bit] at bk'; simp at bk'; exact bk'.2) hne)
  have : pop (maskO B h.n) ≤ pop (prfS h s) := by
    rcases this with e | e
    · rw [e]
      exact Nat.le_refl _
    · unfold Prior at e
      simp only at e
      omega
  unfold HD.few
  omega
end Go.Proofs.Ytgofhjihkinknaa
/-
  Contracts: right, Used, Size.
-/
namespace Go.Proofs.Ytgofhjihkinknaa
open Go Go.Sy Kuhn
set_option linter.unusedSimpArgs false
set_option maxRecDepth 100000
set_option maxHeartbeats 4000000
attribute [local irreducible] CallP CodeP Ent YieldP
attribute [local irreducible] HD.ch maskO

/-- What Check tells is there. -/
theorem chk_spec {h : HD} (hv : h.Valid) {s : Bool} {pl : PD} (hpl : pok h pl = true) : Chk h s pl (HD.chk h s pl) := by
  have hex : ∃ r, Chk h s pl r := by
    by_cases H : ∃ m : Nat, m / 8 < m % 8 ∧ m % 8 < h.n ∧ twoBad h s pl (m / 8) (m % 8)
    · have hn := hv.2.1
      obtain ⟨m, ⟨m1, m2, m3⟩, hmin⟩ : ∃ m, (m / 8 < m % 8 ∧ m % 8 < h.n ∧ twoBad h s pl (m / 8) (m % 8)) ∧ ∀ m', m' < m → ¬ (m' / 8 < m' % 8 ∧ m' % 8 < h.n ∧ twoBad h s pl (m' / 8) (m' % 8)) := by
        obtain ⟨m, hm⟩ := H
        induction m using Nat.strongRecOn with
        | _ m ih =>
          by_cases c : ∃ m', m' < m ∧ (m' / 8 < m' % 8 ∧ m' % 8 < h.n ∧ twoBad h s pl (m' / 8) (m' % 8))
          · obtain ⟨m', a, b⟩ := c
            exact ih m' a b
          · exact ⟨m, hm, fun m' a b => c ⟨m', a, b⟩⟩
      refine ⟨_, .inr (.inr ⟨hv, hpl, .inl ⟨m / 8, m % 8, ⟨m1, m2, m3⟩, fun i k h1 h2 h3 => ?_, rfl⟩⟩)⟩
      have e1 : (i * 8 + k) / 8 = i := by omega
      have e2 : (i * 8 + k) % 8 = k := by omega
      by_cases c : i * 8 + k < m
      · exact absurd ⟨by rw [e1, e2]; exact h1, by rw [e2]; exact h2, by rw [e1, e2]; exact h3⟩ (hmin _ c)
      · omega
    · have hn := hv.2.1
      refine ⟨_, .inr (.inr ⟨hv, hpl, .inr ⟨fun i k h1 h2 h3 => H ⟨i * 8 + k, ?_⟩, rfl⟩⟩)⟩
      have e1 : (i * 8 + k) / 8 = i := by omega
      have e2 : (i * 8 + k) % 8 = k := by omega
      rw [e1, e2]
      exact ⟨h1, h2, h3⟩
  unfold HD.chk
  rw [dif_pos hex]
  exact hex.choose_spec
/-- Is a plan right? -/
noncomputable def rightB (h : HD) (s : Bool) (pl : PD) : Bool := decide ((HD.chk h s pl).2.2 = 4)
theorem rightB_iff {h : HD} (hv : h.Valid) {s : Bool} {pl : PD} (hpl : pok h pl = true) : rightB h s pl = true ↔ h.Right s HD.full pl.p := by
  unfold rightB
  rw [decide_eq_true_eq]
  rcases chk_spec hv (s := s) hpl with ⟨a, _⟩ | ⟨_, a, _⟩ | ⟨_, _, c⟩
  · exact absurd hv a
  · rw [hpl] at a
    cases a
  · rcases c with ⟨i, k, ⟨h1, h2, h3, h4⟩, _, e⟩ | ⟨H, e⟩
    · rw [e]
      constructor
      · intro x
        simp at x
      · intro R
        have := R i k (by omega) h2 rfl rfl (by omega) h3
        rw [h4] at this
        cases this
    · rw [e]
      refine ⟨fun _ i k hi hk _ _ hne e2 => ?_, fun _ => rfl⟩
      cases ha : h.apart s i k with
      | false => rfl
      | true =>
        rcases Nat.lt_or_gt_of_ne hne with c | c
        · exact absurd ⟨e2, ha⟩ (H i k c hk)
        · exact absurd ⟨e2.symm, by rw [HD.apart_comm]; exact ha⟩ (H k i c hi)
theorem t40 (h : HD) (pl : PD) (hn : pl.n ≤ 1000000) (s : Bool) : CallP Try.prog 40 [HD.A h, .osl pl.b 1 1 pl.n pl.cap, .bool s] (HD.H h ++ [some (.roa 1 pl.n (PD.F pl))]) (Ret (.bool (rightB h s pl)) (HD.H h ++ [some (.roa 1 pl.n (PD.F pl))])) := by
  have c18 := t18 h pl hn s
  refine callR (E := E) E_ok Try.func40 rfl ?_
  (repeat' (first | exact trivial | exact fun _ => rfl | exact rfl | refine And.intro ?_ ?_))
  refine c18.use [0, 1] ?_ (by (repeat' (first | exact trivial | exact rfl | exact fun _ _ => rfl | exact fun _ _ _ _ => rfl | exact Or.inl rfl | exact Or.inr rfl | refine And.intro ?_ ?_))) rfl
  (repeat' (first | exact trivial | exact fun _ => rfl | exact rfl | refine And.intro ?_ ?_))
  all_goals first | exact True.intro | omega | exact u1 (lt64 (by omega)) | exact u0 (lt64 (by omega)) | (show under _ _; simp [under, gB, wB]; done) | (show under _ _; simp [under, gB, wB]; omega) | skip
  exact ent_tau [0, 1] ⟨by (repeat' (first | exact trivial | exact rfl | exact fun _ _ => rfl | exact fun _ _ _ _ => rfl | exact Or.inl rfl | exact Or.inr rfl | refine And.intro ?_ ?_)), by (repeat' (first | exact trivial | exact rfl | exact congrArg (SV.int .i64) (Int.natCast_succ _).symm | exact congrArg (SV.int .u64) (Int.natCast_succ _).symm | refine And.intro ?_ ?_)), rfl⟩
theorem pop_half : ∀ S : Fin 128, pop S = S.val % 2 + pop (S.val / 2) := by decide +kernel
theorem pop_step {m : Nat} (h : m < 128) : pop m = m % 2 + pop (m / 2) := pop_half ⟨m, h⟩
theorem pop_zero : pop 0 = 0 := by decide +kernel
theorem pop_le7 (S : Nat) : pop S ≤ 7 := cnt_bnd _ 7
theorem t42 (S : Nat) (hS : S < 128) : CallP Try.prog 42 [.int .i64 S] [] (Ret (.int .i64 (pop S : Nat)) []) := by
  refine callR (E := E) E_ok Try.func42 rfl ?_
  (repeat' (first | exact trivial | exact fun _ => rfl | exact rfl | refine And.intro ?_ ?_))
  refine loopP E_ok [] (fun g : Nat × Nat => [(0, .int .i64 g.1), (3, .int .i64 g.2)]) (fun _ H => H) (fun g => g.1 < 128 ∧ g.2 + pop g.1 = pop S) (fun g => g.1) (S, 0) ⟨hS, Nat.zero_add _⟩ ?_ ?_
  · exact ent_tau [] ⟨by (repeat' (first | exact trivial | exact rfl | exact fun _ _ => rfl | exact fun _ _ _ _ => rfl | exact Or.inl rfl | exact Or.inr rfl | refine And.intro ?_ ?_)), by (repeat' (first | exact trivial | exact rfl | exact congrArg (SV.int .i64) (Int.natCast_succ _).symm | exact congrArg (SV.int .u64) (Int.natCast_succ _).symm | refine And.intro ?_ ?_)), rfl⟩
  rintro ⟨m, j⟩ ⟨hm, hj⟩
  simp only at hm hj
  have hp := pop_step hm
  have h7 := pop_le7 S
  refine And.intro ?_ (And.intro (fun hc => ?_) (fun hc => ?_))
  · (repeat' (first | exact trivial | exact fun _ => rfl | exact rfl | refine And.intro ?_ ?_))
  · have hm0 : 0 < m := by
      have := of_decide_eq_true hc
      omega
    have e1 : ((m : Nat) : Int).tmod 2 = ((m % 2 : Nat) : Int) := by
      rw [Int.tmod_eq_emod_of_nonneg (by omega)]
      rfl
    have e2 : ((m : Nat) : Int).tdiv 2 = ((m / 2 : Nat) : Int) := by
      rw [Int.tdiv_eq_ediv_of_nonneg (by omega)]
      rfl
    (repeat' (first | exact trivial | exact fun _ => rfl | exact rfl | refine And.intro ?_ ?_))
    all_goals first | (first | omega | exact u0 (by omega) | exact u1 (by omega) | exact u1 ⟨by omega, by omega⟩ | exact un (by omega) | exact fun hh => hh | exact fun hh => absurd hh (by decide) | exact fun hh => congrArg not hh | exact fun hh => Bool.noConfusion (show true = false from hh) | exact fun hh => Bool.noConfusion (show false = true from hh)) | (rw [e1]; omega) | (rw [e2]; omega) | skip
    refine ⟨(m / 2, j + m % 2), ⟨by simp only; omega, by simp only; omega⟩, by simp only; omega, ?_⟩
    refine ent_tau [] ⟨by (repeat' (first | exact trivial | exact rfl | exact fun _ _ => rfl | exact fun _ _ _ _ => rfl | exact Or.inl rfl | exact Or.inr rfl | refine And.intro ?_ ?_)), ?_, rfl⟩
    (repeat' (first | exact trivial | exact rfl | exact congrArg (SV.int .i64) e2 | exact congrArg (SV.int .i64) (by rw [e1]; exact (Int.natCast_add _ _).symm) | refine And.intro ?_ ?_))
  · have e : m = 0 := by
      have := of_decide_eq_false hc
      omega
    subst e
    have e2 : j = pop S := by rw [← hj, pop_zero]; rfl
    (repeat' (first | exact trivial | exact fun _ => rfl | exact rfl | refine And.intro ?_ ?_))
    refine ent_tau [] ⟨by (repeat' (first | exact trivial | exact rfl | exact fun _ _ => rfl | exact fun _ _ _ _ => rfl | exact Or.inl rfl | exact Or.inr rfl | refine And.intro ?_ ?_)), ⟨rfl, ?_, trivial⟩, rfl⟩
    exact congrArg (fun z : Nat => SV.int .i64 z) e2
end Go.Proofs.Ytgofhjihkinknaa
/-
  Plain law: sets as signed numbers.
-/
namespace Go.Proofs.Ytgofhjihkinknaa
open Go Go.Sy Kuhn
set_option maxRecDepth 100000

theorem wrap64 (x : Nat) (h : x < 2 ^ 63) : IntKind.wrap .i64 (x : Int) = x := wrap_in (k := .i64) ⟨by omega, by omega⟩
theorem and64 {a b : Nat} (ha : a < 2 ^ 63) (hb : b < 2 ^ 64) : bitOp .and .i64 (a : Int) (b : Int) = ((a &&& b : Nat) : Int) := by
  show IntKind.wrap .i64 ((BitVec.ofInt 64 (a : Int) &&& BitVec.ofInt 64 (b : Int)).toNat : Int) = _
  rw [ofInt_nat, ofInt_nat, BitVec.toNat_and, BitVec.toNat_ofNat, BitVec.toNat_ofNat, Nat.mod_eq_of_lt (by omega), Nat.mod_eq_of_lt hb]
  exact wrap64 _ (Nat.lt_of_le_of_lt Nat.and_le_left ha)
theorem has0 {S n : Nat} (hS : S < 2 ^ 63) : decide (bitOp .and .i64 ((S : Int).fdiv (2 ^ n)) 1 = 0) = !S.testBit n := by
  have e : (S : Int).fdiv (2 ^ n) = ((S / 2 ^ n : Nat) : Int) := by
    rw [Int.fdiv_eq_ediv_of_nonneg _ (by have := Nat.pow_pos (n := n) (show 0 < 2 by omega); exact_mod_cast Nat.zero_le _)]
    norm_cast
  have h1 : S / 2 ^ n < 2 ^ 63 := Nat.lt_of_le_of_lt (Nat.div_le_self _ _) hS
  have e2 := and64 (a := S / 2 ^ n) (b := 1) h1 (by decide)
  rw [e]
  have e3 : bitOp .and .i64 ((S / 2 ^ n : Nat) : Int) 1 = ((S / 2 ^ n &&& 1 : Nat) : Int) := e2
  rw [e3, Nat.and_one_is_mod, Nat.testBit_eq_decide_div_mod_eq]
  by_cases c : S / 2 ^ n % 2 = 1
  · rw [decide_eq_true c, decide_eq_false (by omega)]
    rfl
  · rw [decide_eq_false c, decide_eq_true (by omega)]
    rfl
end Go.Proofs.Ytgofhjihkinknaa
/-
  HorseFewest: the plan that is told, and the proof.
-/
namespace Go.Proofs.Ytgofhjihkinknaa
open Go Go.Sy Kuhn
set_option linter.unusedSimpArgs false
set_option maxRecDepth 100000
set_option maxHeartbeats 4000000
attribute [local irreducible] CallP CodeP Ent YieldP
attribute [local irreducible] HD.ch maskO

theorem prf128 {h : HD} (hv : h.Valid) (s : Bool) : prfS h s < 128 := Nat.lt_of_lt_of_le (prf_lt h hv.2.1 s) (Nat.pow_le_pow_right (n := 2) (by omega) hv.2.1)
end Go.Proofs.Ytgofhjihkinknaa
/-
  HorseMore: plain law: quicker horses, shorter moves; moves of which it is known how long they take.
-/
namespace Go.Proofs.Ytgofhjihkinknaa
open Go Go.Sy Kuhn
set_option linter.unusedSimpArgs false
set_option maxRecDepth 100000
set_option maxHeartbeats 4000000
attribute [local irreducible] CallP CodeP Ent YieldP
attribute [local irreducible] HD.ch maskO

/-- The same moves, no one of which takes longer, and a pace that is no slower. -/
structure Less (x h : HD) : Prop where
  n : x.n = h.n
  at' : x.at' = h.at'
  pl : x.pl = h.pl
  pace : 0 ≤ x.pace ∧ x.pace ≤ h.pace
  mv : ∀ i, i < h.n → 1 ≤ x.lo i ∧ x.lo i ≤ x.hi i ∧ x.lo i ≤ h.lo i ∧ x.hi i ≤ h.hi i
theorem Less.valid {x h : HD} (L : Less x h) (hv : h.Valid) : x.Valid := by
  refine ⟨⟨L.pace.1, by have := hv.1.2; have := L.pace.2; omega⟩, by rw [L.n]; exact hv.2.1, fun i hi => ?_⟩
  rw [L.n] at hi
  have m := hv.2.2 i hi
  have l := L.mv i hi
  unfold HD.okMv at m ⊢
  rw [L.at', L.pl]
  omega
theorem Less.takes {x h : HD} (L : Less x h) (s : Bool) {i : Nat} (hi : i < h.n) : x.takes s i ≤ h.takes s i := by
  have l := L.mv i hi
  cases s <;> simp only [HD.takes] <;> omega
theorem Less.walk {x h : HD} (L : Less x h) (i k : Nat) : x.pace * x.dist i k ≤ h.pace * h.dist i k := by
  have e : x.dist i k = h.dist i k := by
    unfold HD.dist
    rw [L.pl]
  rw [e]
  exact Int.mul_le_mul_of_nonneg_right L.pace.2 (h.dist_nonneg i k)
theorem Less.can {x h : HD} (L : Less x h) {s : Bool} {i k : Nat} (hi : i < h.n) (hc : h.can s i k = true) : x.can s i k = true := by
  rw [HD.can_iff] at hc ⊢
  have := L.takes s hi
  have := L.walk i k
  rw [L.at']
  omega
theorem Less.few {x h : HD} (L : Less x h) (hv : h.Valid) (s : Bool) : x.few s ≤ h.few s :=
  HD.few_can (L.valid hv) hv L.n (fun a b ha _ c => L.can ha c) HD.full
theorem Less.right {x h : HD} (L : Less x h) {s : Bool} {p : Nat → Int} (hr : h.Right s HD.full p) : x.Right s HD.full p := by
  intro i k hi hk oi ok hne e
  rw [L.n] at hi hk
  rcases HD.apart_false.1 (hr i k hi hk oi ok hne e) with c | c
  · exact HD.apart_false.2 (.inl (L.can hi c))
  · exact HD.apart_false.2 (.inr (L.can hk c))
theorem Less.pok {x h : HD} (L : Less x h) (pl : PD) : pok x pl = pok h pl := by
  unfold Go.Proofs.Ytgofhjihkinknaa.pok
  rw [L.n]
theorem Less.rightB {x h : HD} (L : Less x h) (hv : h.Valid) {s : Bool} {pl : PD} (hpl : Go.Proofs.Ytgofhjihkinknaa.pok h pl = true) : rightB h s pl = true → rightB x s pl = true := fun e =>
  (rightB_iff (L.valid hv) (by rw [L.pok]; exact hpl)).2 (L.right ((rightB_iff hv hpl).1 e))
theorem lve128 {h : HD} (hv : h.Valid) (s : Bool) {m : Int} (hm : 0 ≤ m) : lveS h s m < 128 :=
  Nat.lt_of_lt_of_le (lve_ok hv s hm).1 (Nat.pow_le_pow_right (n := 2) (by omega) hv.2.1)
end Go.Proofs.Ytgofhjihkinknaa
/-
  HorseTurned: plain law: moves numbered otherwise, the beach gone along from its other end.
-/
namespace Go.Proofs.Ytgofhjihkinknaa
open Go Go.Sy Kuhn
set_option linter.unusedSimpArgs false
set_option maxRecDepth 100000
set_option maxHeartbeats 4000000
attribute [local irreducible] CallP CodeP Ent YieldP
attribute [local irreducible] HD.ch maskO

def rv (n i : Nat) : Nat := n - 1 - i
theorem rv_lt {n i : Nat} (h : i < n) : rv n i < n := by unfold rv; omega
theorem rv_rv {n i : Nat} (h : i < n) : rv n (rv n i) = i := by unfold rv; omega
/-- The same moves from the last one on, the beach gone along from its other end. -/
def rvD (h : HD) (b : Bool) (cap : Nat) : HD := ⟨h.pace, h.n, fun i => h.at' (rv h.n i), fun i => 30 - h.pl (rv h.n i), fun i => h.lo (rv h.n i), fun i => h.hi (rv h.n i), b, cap⟩
theorem rv_valid {h : HD} (hv : h.Valid) (b : Bool) (cap : Nat) : (rvD h b cap).Valid := by
  refine ⟨hv.1, hv.2.1, fun i hi => ?_⟩
  have m := hv.2.2 _ (rv_lt (show i < h.n from hi))
  unfold HD.okMv at m ⊢
  simp only [rvD]
  omega
theorem rv_can (h : HD) (b : Bool) (cap : Nat) (s : Bool) (i k : Nat) : (rvD h b cap).can s i k = h.can s (rv h.n i) (rv h.n k) := by
  have e : (rvD h b cap).dist i k = h.dist (rv h.n i) (rv h.n k) := by
    unfold HD.dist rvD
    simp only
    omega
  unfold HD.can HD.there
  rw [e]
  cases s <;> rfl
theorem rv_emb (h : HD) (b : Bool) (cap : Nat) (s : Bool) : HD.Emb (rvD h b cap) h s (rv h.n) where
  lt := fun a ha => rv_lt (show a < h.n from ha)
  inj := fun a c ha hc e => by
    have h1 : a < h.n := ha
    have h2 : c < h.n := hc
    unfold rv at e
    omega
  can := fun a c _ _ => rv_can h b cap s a c
theorem rv_few {h : HD} (hv : h.Valid) (b : Bool) (cap : Nat) (s : Bool) : (rvD h b cap).few s = h.few s :=
  (rv_emb h b cap s).few (rv_valid hv b cap) hv fun j hj => ⟨rv h.n j, rv_lt hj, rv_rv hj⟩
theorem rv_prf {h : HD} (hv : h.Valid) (b : Bool) (cap : Nat) (s : Bool) : pop (prfS (rvD h b cap) s) = pop (prfS h s) := by
  rw [prf_pop (rv_valid hv b cap), prf_pop hv, rv_few hv]
theorem rv_fv (h : HD) (b : Bool) (cap : Nat) (i k : Nat) : fv (rvD h b cap) i k = fv h (rv h.n i) (rv h.n k) := by
  unfold fv
  rw [rv_can, rv_can]
theorem rv_apart (h : HD) (b : Bool) (cap : Nat) (s : Bool) (i k : Nat) : (rvD h b cap).apart s i k = h.apart s (rv h.n i) (rv h.n k) := by
  unfold HD.apart
  rw [rv_can, rv_can]
theorem rv_right {h : HD} (b : Bool) (cap : Nat) {s : Bool} {p q : Nat → Int} (hq : ∀ i, i < h.n → q i = p (rv h.n i)) : (rvD h b cap).Right s HD.full q ↔ h.Right s HD.full p := by
  constructor
  · intro H i k hi hk _ _ hne e
    have := H (rv h.n i) (rv h.n k) (rv_lt hi) (rv_lt hk) rfl rfl (fun c => hne (by rw [← rv_rv hi, ← rv_rv hk, c])) (by rw [hq _ (rv_lt hi), hq _ (rv_lt hk), rv_rv hi, rv_rv hk]; exact e)
    rw [rv_apart, rv_rv hi, rv_rv hk] at this
    exact this
  · intro H i k hi hk _ _ hne e
    have hi' : i < h.n := hi
    have hk' : k < h.n := hk
    rw [rv_apart]
    exact H _ _ (rv_lt hi') (rv_lt hk') rfl rfl (fun c => hne (by rw [← rv_rv hi', ← rv_rv hk', c])) (by rw [← hq _ hi', ← hq _ hk']; exact e)
theorem rv_rightB {h : HD} (hv : h.Valid) (b : Bool) (cap : Nat) {s : Bool} {p q : PD} (hp : pok h p = true) (hqp : pok (rvD h b cap) q = true) (hq : ∀ i, i < h.n → q.p i = p.p (rv h.n i)) : rightB (rvD h b cap) s q = rightB h s p := by
  have a := rightB_iff (rv_valid hv b cap) (s := s) hqp
  have c := rightB_iff hv (s := s) hp
  rw [Bool.eq_iff_iff]
  exact a.trans ((rv_right b cap hq).trans c.symm)
/-- As many of the turned ones. -/
theorem rv_cnt (p : Nat → Bool) (n : Nat) : cnt (fun i => p (rv n i)) n = cnt p n := by
  apply Nat.le_antisymm
  · exact cnt_inj (rv n) n p (fun r hr hp => ⟨rv_lt hr, hp⟩) fun r t hr ht _ _ e => by
      have := congrArg (rv n) e
      rwa [rv_rv hr, rv_rv ht] at this
  · exact cnt_inj (rv n) n (fun i => p (rv n i)) (fun r hr hp => ⟨rv_lt hr, by rw [rv_rv hr]; exact hp⟩) fun r t hr ht _ _ e => by
      have := congrArg (rv n) e
      rwa [rv_rv hr, rv_rv ht] at this
/-- The moves of a set, numbered otherwise. -/
noncomputable def rvS (n S : Nat) : Nat := maskO (fun i => S.testBit (rv n i)) n
theorem rvS_lt (n S : Nat) : rvS n S < 2 ^ n := maskO_lt _ n
theorem rvS_bit {n S i : Nat} (hi : i < n) : (rvS n S).testBit i = S.testBit (rv n i) := by
  unfold rvS
  rw [maskO_bit, decide_eq_true hi, Bool.true_and]
theorem cnt7 {S n : Nat} (hn : n ≤ 7) (h : S < 2 ^ n) : pop S = cnt (fun i => S.testBit i) n := by
  have := cnt_cut (p := fun i => S.testBit i) (n := n) (fun i hi => Nat.testBit_lt_two_pow (Nat.lt_of_lt_of_le h (Nat.pow_le_pow_right (by omega) hi))) (7 - n)
  rw [show n + (7 - n) = 7 by omega] at this
  exact this
theorem rvS_pop {n S : Nat} (hn : n ≤ 7) (h : S < 2 ^ n) : pop (rvS n S) = pop S := by
  rw [cnt7 hn (rvS_lt n S), cnt7 hn h, ← rv_cnt (fun i => S.testBit i) n]
  exact cnt_congr fun r hr => rvS_bit hr
theorem rv_need {h : HD} (hv : h.Valid) (b : Bool) (cap : Nat) (s : Bool) {ok ok' : Nat → Bool} (ho : ∀ i, i < h.n → ok' i = ok (rv h.n i)) : (rvD h b cap).need s ok' ≤ h.need s ok := by
  obtain ⟨p, a, c⟩ := HD.need_plan hv s ok
  refine HD.need_le (rv_valid hv b cap) (p := fun i => p (rv h.n i)) (fun i k hi hk oi oc hne e => ?_) fun i hi oi => ?_
  · have hi' : i < h.n := hi
    have hk' : k < h.n := hk
    rw [rv_apart]
    exact c _ _ (rv_lt hi') (rv_lt hk') (by rw [← ho i hi']; exact oi) (by rw [← ho k hk']; exact oc) (fun q => hne (by rw [← rv_rv hi', ← rv_rv hk', q])) e
  · have hi' : i < h.n := hi
    exact a _ (rv_lt hi') (by rw [← ho i hi']; exact oi)
theorem rv_lve1 {h : HD} (hv : h.Valid) (b : Bool) (cap : Nat) (s : Bool) {m : Int} (hm : 0 ≤ m) : pop (lveS (rvD h b cap) s m) ≤ pop (lveS h s m) := by
  obtain ⟨a1, a2, _⟩ := lve_ok hv s hm
  obtain ⟨_, _, b3⟩ := lve_ok (rv_valid hv b cap) s hm
  have hn := hv.2.1
  have := b3 (rvS h.n (lveS h s m)) (rvS_lt _ _) (by
    unfold okWo at a2 ⊢
    have q := of_decide_eq_true a2
    have := rv_need hv b cap s (ok := fun i => (sdiff h.every (lveS h s m)).testBit i) (ok' := fun i => (sdiff (rvD h b cap).every (rvS h.n (lveS h s m))).testBit i) (fun i hi => by
      have hi2 := rv_lt hi
      rw [sdiff_bit (by omega), sdiff_bit (by omega), rvS_bit hi, HD.every_bit, HD.every_bit, decide_eq_true hi2, decide_eq_true (show i < (rvD h b cap).n from hi)])
    exact decide_eq_true (by omega))
  rw [← rvS_pop hn a1]
  rcases this with e | e
  · rw [e]; exact Nat.le_refl _
  · unfold Prior at e
    simp only at e
    omega
theorem rv_need2 {h : HD} (hv : h.Valid) (b : Bool) (cap : Nat) (s : Bool) {ok ok' : Nat → Bool} (ho : ∀ i, i < h.n → ok' i = ok (rv h.n i)) : h.need s ok ≤ (rvD h b cap).need s ok' := by
  obtain ⟨p, a, c⟩ := HD.need_plan (rv_valid hv b cap) s ok'
  have hk0 : ∀ i, i < h.n → ok i = true → ok' (rv h.n i) = true := fun i hi oi => by rw [ho _ (rv_lt hi), rv_rv hi]; exact oi
  refine HD.need_le hv (p := fun i => p (rv h.n i)) (fun i k hi hk oi oc hne e => ?_) fun i hi oi => a _ (rv_lt hi) (hk0 i hi oi)
  have := c (rv h.n i) (rv h.n k) (rv_lt hi) (rv_lt hk) (hk0 i hi oi) (hk0 k hk oc) (fun q => hne (by rw [← rv_rv hi, ← rv_rv hk, q])) e
  rw [rv_apart, rv_rv hi, rv_rv hk] at this
  exact this
theorem rv_lve2 {h : HD} (hv : h.Valid) (b : Bool) (cap : Nat) (s : Bool) {m : Int} (hm : 0 ≤ m) : pop (lveS h s m) ≤ pop (lveS (rvD h b cap) s m) := by
  obtain ⟨a1, a2, _⟩ := lve_ok (rv_valid hv b cap) s hm
  obtain ⟨_, _, b3⟩ := lve_ok hv s hm
  have hn := hv.2.1
  have := b3 (rvS h.n (lveS (rvD h b cap) s m)) (rvS_lt _ _) (by
    unfold okWo at a2 ⊢
    have q := of_decide_eq_true a2
    have := rv_need2 hv b cap s (ok := fun i => (sdiff h.every (rvS h.n (lveS (rvD h b cap) s m))).testBit i) (ok' := fun i => (sdiff (rvD h b cap).every (lveS (rvD h b cap) s m)).testBit i) (fun i hi => by
      have hi2 := rv_lt hi
      rw [sdiff_bit (by omega), sdiff_bit (by omega), rvS_bit hi2, rv_rv hi, HD.every_bit, HD.every_bit, decide_eq_true hi2, decide_eq_true (show i < (rvD h b cap).n from hi)])
    exact decide_eq_true (by omega))
  have e2 : pop (rvS h.n (lveS (rvD h b cap) s m)) = pop (lveS (rvD h b cap) s m) := rvS_pop hn a1
  rcases this with e | e
  · rw [e, e2]; exact Nat.le_refl _
  · unfold Prior at e
    simp only at e
    omega
theorem rv_lve {h : HD} (hv : h.Valid) (b : Bool) (cap : Nat) (s : Bool) {m : Int} (hm : 0 ≤ m) : pop (lveS (rvD h b cap) s m) = pop (lveS h s m) := Nat.le_antisymm (rv_lve1 hv b cap s hm) (rv_lve2 hv b cap s hm)
theorem bz_cnt (h : HD) (s : Bool) (m : Int) : ∀ n : Nat, bz h s m n = (cnt (fun i => decide (h.at' i ≤ m ∧ m < h.at' i + h.takes s i)) n : Nat)
  | 0 => rfl
  | n + 1 => by
    rw [bz, bz_cnt h s m n, cnt]
    by_cases c : h.at' n ≤ m ∧ m < h.at' n + h.takes s n
    · rw [if_pos c, if_pos (decide_eq_true c)]
      omega
    · rw [if_neg c, if_neg (by rw [decide_eq_false c]; decide)]
      omega
theorem rv_bz (h : HD) (b : Bool) (cap : Nat) (s : Bool) (m : Int) : bz (rvD h b cap) s m h.n = bz h s m h.n := by
  rw [bz_cnt, bz_cnt, ← rv_cnt (fun i => decide (h.at' i ≤ m ∧ m < h.at' i + h.takes s i)) h.n]
  cases s <;> rfl
theorem rv_bus {h : HD} (hv : h.Valid) (b : Bool) (cap : Nat) (m : Int) : HD.bus (rvD h b cap) m = HD.bus h m := by
  unfold HD.bus
  rw [if_pos hv, if_pos (rv_valid hv b cap)]
  have e : (rvD h b cap).n = h.n := rfl
  rw [e, rv_bz, rv_bz]
end Go.Proofs.Ytgofhjihkinknaa
/-
  HorseTurned: no argument is changed, and what is returned is new.
-/
namespace Go.Proofs.Ytgofhjihkinknaa
open Go Go.Sy Kuhn
set_option linter.unusedSimpArgs false
set_option maxRecDepth 100000
set_option maxHeartbeats 4000000
attribute [local irreducible] CallP CodeP Ent YieldP
set_option maxHeartbeats 40000000
attribute [local irreducible] HD.ch maskO

noncomputable def T13z (h : HD) (cap : Nat) : Tm := mkT [] [(4, .ptr 2 0), (8, .bool false), (15, .slice 3 4 0 h.n cap)] 0 (List.replicate 314 none)
def H13 (h : HD) (y : PD) : SHeap := HD.H h ++ [some (.roa 1 y.n (BDF y))]
def H13z (h : HD) (y : PD) : SHeap := HD.H h ++ [some (.roa 1 y.n (BDF y)), some (.roc (bc h)), some (.roa 4 h.n (HD.F h))]
theorem seg13z (h : HD) (hv : h.Valid) (y : PD) (cap : Nat) :
    CodeP Try.prog none 2 (sufC Try.f13 24) ⟨T13z h cap, H13z h y, []⟩ (KRet E Try.f13 2 (.bool true) (H13 h y)) := by
  have hn := hv.2.1
  refine codeP_XK E_ok 100 ?_
  (repeat' (first | exact trivial | exact fun _ => rfl | exact rfl | refine And.intro ?_ ?_))
  refine loopP E_ok [4, 8, 15, 298] (fun i : Nat => [(299, .int .i64 i)]) (fun _ _ => H13z h y) (fun i => i ≤ h.n) (fun i => h.n - i) 0 (Nat.zero_le _) ?_ ?_
  · exact ent_tau [0, 1, 2, 3] ⟨by (repeat' (first | exact trivial | exact rfl | exact fun _ _ => rfl | exact fun _ _ _ _ => rfl | exact Or.inl rfl | exact Or.inr rfl | refine And.intro ?_ ?_)), by (repeat' (first | exact trivial | exact rfl | exact congrArg (SV.int .i64) (Int.natCast_succ _).symm | exact congrArg (SV.int .u64) (Int.natCast_succ _).symm | refine And.intro ?_ ?_)), rfl⟩
  rintro i hi
  refine And.intro ?_ (And.intro (fun hlt => ?_) (fun hlt => ?_))
  · (repeat' (first | exact trivial | exact fun _ => rfl | exact rfl | refine And.intro ?_ ?_))
  · have hlt' : i < h.n := by
      have := of_decide_eq_true hlt
      omega
    have ei := z1 i
    (repeat' (first | exact trivial | exact fun _ => rfl | exact rfl | refine And.intro ?_ ?_))
    refine drawP E_ok [] pl13_52 (by kernel_rfl) ?_
    (repeat' (first | exact trivial | exact fun _ => rfl | exact rfl | refine And.intro ?_ ?_))
    all_goals first | (first | omega | exact u0 (by omega) | exact u1 (by omega) | exact u1 ⟨by omega, by omega⟩ | exact un (by omega) | exact fun hh => hh | exact fun hh => absurd hh (by decide) | exact fun hh => congrArg not hh | exact fun hh => Bool.noConfusion (show true = false from hh) | exact fun hh => Bool.noConfusion (show false = true from hh)) | skip
    all_goals first | (show under none _; exact u0 (by omega)) | skip
    · intro hx
      exfalso
      revert hx
      simp
    intro hx
    clear hx
    (repeat' (first | exact trivial | exact fun _ => rfl | exact rfl | refine And.intro ?_ ?_))
    all_goals first | exact True.intro | omega | exact u1 (lt64 (by omega)) | exact u0 (lt64 (by omega)) | (show under _ _; simp [under, gB, wB]; done) | (show under _ _; simp [under, gB, wB]; omega) | skip
    refine ⟨i + 1, hlt', by omega, ?_⟩
    exact ent_tau [0, 1, 2, 3] ⟨by (repeat' (first | exact trivial | exact rfl | exact fun _ _ => rfl | exact fun _ _ _ _ => rfl | exact Or.inl rfl | exact Or.inr rfl | refine And.intro ?_ ?_)), by (repeat' (first | exact trivial | exact rfl | exact congrArg (SV.int .i64) (Int.natCast_succ _).symm | exact congrArg (SV.int .u64) (Int.natCast_succ _).symm | refine And.intro ?_ ?_)), rfl⟩
  · have e : i = h.n := by
      have := of_decide_eq_false hlt
      omega
    subst e
    (repeat' (first | exact trivial | exact fun _ => rfl | exact rfl | refine And.intro ?_ ?_))
    refine t15.use [] ?_ trivial rfl
    (repeat' (first | exact trivial | exact fun _ => rfl | exact rfl | refine And.intro ?_ ?_))
    all_goals first | exact True.intro | omega | exact u1 (lt64 (by omega)) | exact u0 (lt64 (by omega)) | (show under _ _; simp [under, gB, wB]; done) | (show under _ _; simp [under, gB, wB]; omega) | skip
    exact ent_tau [0, 1] ⟨by (repeat' (first | exact trivial | exact rfl | exact fun _ _ => rfl | exact fun _ _ _ _ => rfl | exact Or.inl rfl | exact Or.inr rfl | refine And.intro ?_ ?_)), by (repeat' (first | exact trivial | exact rfl | exact congrArg (SV.int .i64) (Int.natCast_succ _).symm | exact congrArg (SV.int .u64) (Int.natCast_succ _).symm | refine And.intro ?_ ?_)), rfl⟩
theorem eqN_self (F : Nat → Int) : ∀ n, eqN F F n = true
  | 0 => rfl
  | n + 1 => by
    rw [eqN, eqN_self F n]
    simp
theorem own_row (h : HD) (s : Bool) (i k j : Nat) (hj : j = i) : selL (decide (k = j)) (splice [SV.int .i64 (if j < i then -9 else (h.plan s).getD j 0)] 0 [SV.int .i64 (-9)]) [SV.int .i64 (if k < i then -9 else (h.plan s).getD k 0)] = [SV.int .i64 (if k < i + 1 then -9 else (h.plan s).getD k 0)] := by
  subst hj
  by_cases c : k = j
  · subst c
    rw [decide_eq_true rfl, selL_true, if_pos (Nat.lt_succ_self _)]
    rfl
  · rw [decide_eq_false c, selL_false]
    by_cases d : k < j
    · rw [if_pos d, if_pos (by omega)]
    · rw [if_neg d, if_neg (by omega)]
noncomputable def T13y (h : HD) (s : Bool) (cap : Nat) : Tm := mkT [] [(2, .bool s), (4, .ptr 2 0), (8, .bool false), (15, .slice 3 4 0 h.n cap), (17, .slice 4 1 0 h.n h.n), (18, .int .i64 0)] 0 (List.replicate 314 none)
theorem seg13y (h : HD) (hv : h.Valid) (s : Bool) (y : PD) (cap : Nat) :
    CodeP Try.prog none 2 (sufC Try.f13 20) ⟨T13y h s cap, H13z h y ++ [some (.arr 1 h.n h.n (plF h s))], []⟩ (KRet E Try.f13 2 (.bool true) (H13 h y)) := by
  have hn := hv.2.1
  refine codeP_XK E_ok 4 ?_
  (repeat' (first | exact trivial | exact fun _ => rfl | exact rfl | refine And.intro ?_ ?_))
  all_goals first | (first | omega | exact u0 (by omega) | exact u1 (by omega) | exact u1 ⟨by omega, by omega⟩ | exact un (by omega) | exact fun hh => hh | exact fun hh => absurd hh (by decide) | exact fun hh => congrArg not hh | exact fun hh => Bool.noConfusion (show true = false from hh) | exact fun hh => Bool.noConfusion (show false = true from hh)) | (show _ * 8 ≤ 140737488355328; omega) | exact fun k hk => rfl | skip
  intro cap1 h1 h2
  (repeat' (first | exact trivial | exact fun _ => rfl | exact rfl | refine And.intro ?_ ?_))
  refine loopP E_ok [2, 4, 8, 15, 17, 18, 41, 273] (fun i : Nat => [(274, .int .i64 i)]) (fun i _ => H13z h y ++ [some (.arr 1 h.n h.n fun k => [.int .i64 (if k < i then -9 else (h.plan s).getD k 0)]), some .dead, some (.roa 1 (0 + h.n) fun k => [.int .i64 ((h.plan s).getD k 0)])]) (fun i => i ≤ h.n) (fun i => h.n - i) 0 (Nat.zero_le _) ?_ ?_
  · refine ent_tau [0, 1, 2, 3, 4, 5, 6] ⟨?_, by (repeat' (first | exact trivial | exact rfl | exact congrArg (SV.int .i64) (Int.natCast_succ _).symm | exact congrArg (SV.int .u64) (Int.natCast_succ _).symm | refine And.intro ?_ ?_)), rfl⟩
    (repeat' (first | exact trivial | exact rfl | exact fun _ _ => rfl | exact fun _ _ _ _ => rfl | exact Or.inl rfl | exact Or.inr rfl | refine And.intro ?_ ?_))
    intro k hk
    show selL (decide (k < 0)) _ (plF h s (0 + (k - 0))) = plF h s k
    rw [decide_eq_false (by omega), selL_false, Nat.sub_zero, Nat.zero_add]
  rintro i hi
  refine And.intro ?_ (And.intro (fun hlt => ?_) (fun hlt => ?_))
  · (repeat' (first | exact trivial | exact fun _ => rfl | exact rfl | refine And.intro ?_ ?_))
  · have hlt' : i < h.n := by
      have := of_decide_eq_true hlt
      omega
    have ei := z1 i
    (repeat' (first | exact trivial | exact fun _ => rfl | exact rfl | refine And.intro ?_ ?_))
    all_goals first | (first | omega | exact u0 (by omega) | exact u1 (by omega) | exact u1 ⟨by omega, by omega⟩ | exact un (by omega) | exact fun hh => hh | exact fun hh => absurd hh (by decide) | exact fun hh => congrArg not hh | exact fun hh => Bool.noConfusion (show true = false from hh) | exact fun hh => Bool.noConfusion (show false = true from hh)) | skip
    all_goals first | (show under none _; exact u0 (by omega)) | skip
    refine ⟨i + 1, hlt', by omega, ?_⟩
    refine ent_tau [0, 1, 2, 3, 4, 5, 6] ⟨?_, by (repeat' (first | exact trivial | exact rfl | exact congrArg (SV.int .i64) (Int.natCast_succ _).symm | exact congrArg (SV.int .u64) (Int.natCast_succ _).symm | refine And.intro ?_ ?_)), rfl⟩
    (repeat' (first | exact trivial | exact rfl | exact fun _ _ => rfl | exact fun _ _ _ _ => rfl | exact Or.inl rfl | exact Or.inr rfl | refine And.intro ?_ ?_))
    exact fun k _ => own_row h s i k _ ei
  · have e : i = h.n := by
      have := of_decide_eq_false hlt
      omega
    subst e
    have c1 := t26 h hv s
    have c2 := t30 h.n (0 + h.n) h.n cap1 (fun k => (h.plan s).getD k 0) (fun k => (h.plan s).getD k 0) (by omega) (by omega)
    rw [eqN_self, decide_eq_true (Nat.zero_add _).symm] at c2
    (repeat' (first | exact trivial | exact fun _ => rfl | exact rfl | refine And.intro ?_ ?_))
    refine c1.use [0] ?_ (by (repeat' (first | exact trivial | exact rfl | exact fun _ _ => rfl | exact fun _ _ _ _ => rfl | exact Or.inl rfl | exact Or.inr rfl | refine And.intro ?_ ?_))) rfl
    all_goals (repeat' (first | exact trivial | exact fun _ => rfl | exact rfl | refine And.intro ?_ ?_))
    all_goals first | exact True.intro | omega | exact u1 (lt64 (by omega)) | exact u0 (lt64 (by omega)) | (show under _ _; simp [under, gB, wB]; done) | (show under _ _; simp [under, gB, wB]; omega) | skip
    all_goals intro g1
    all_goals first | (exfalso; revert g1; simp [gB, wB]; done) | skip
    refine c2.use [7, 6] ?_ (by (repeat' (first | exact trivial | exact rfl | exact fun _ _ => rfl | exact fun _ _ _ _ => rfl | exact Or.inl rfl | exact Or.inr rfl | refine And.intro ?_ ?_))) rfl
    all_goals (repeat' (first | exact trivial | exact fun _ => rfl | exact rfl | refine And.intro ?_ ?_))
    all_goals first | exact True.intro | omega | exact u1 (lt64 (by omega)) | exact u0 (lt64 (by omega)) | (show under _ _; simp [under, gB, wB]; done) | (show under _ _; simp [under, gB, wB]; omega) | skip
    all_goals intro g2
    all_goals first | (exfalso; revert g2; simp [gB, wB]; done) | skip
    (repeat' (first | exact trivial | exact fun _ => rfl | exact rfl | refine And.intro ?_ ?_))
    refine CodeP.part (seg13z h hv y cap) ?_
    exact ent_tau [0, 1, 2, 3] ⟨by (repeat' (first | exact trivial | exact rfl | exact fun _ _ => rfl | exact fun _ _ _ _ => rfl | exact Or.inl rfl | exact Or.inr rfl | refine And.intro ?_ ?_)), by (repeat' (first | exact trivial | exact rfl | exact congrArg (SV.int .i64) (Int.natCast_succ _).symm | exact congrArg (SV.int .u64) (Int.natCast_succ _).symm | refine And.intro ?_ ?_)), rfl⟩
end Go.Proofs.Ytgofhjihkinknaa
/-
  HorseTurned: whether one move can follow another one; all that is told.
-/
namespace Go.Proofs.Ytgofhjihkinknaa
open Go Go.Sy Kuhn
set_option linter.unusedSimpArgs false
set_option maxRecDepth 100000
set_option maxHeartbeats 4000000
attribute [local irreducible] CallP CodeP Ent YieldP
set_option maxHeartbeats 40000000
attribute [local irreducible] HD.ch maskO

def bx6 (x : HD) : List SV := [.int .i64 x.pace, .osl x.b 6 4 x.n x.cap]
def H13x (h x : HD) (s : Bool) (y : PD) : SHeap := H13z h y ++ [some (.arr 1 h.n h.n (plF h s)), some (.roc (bx6 x)), some (.roa 4 x.n (HD.F x))]
noncomputable def T13x (h : HD) (s : Bool) (cap : Nat) : Tm := mkT [] [(2, .bool s), (4, .ptr 2 0), (8, .bool false), (9, .int .i64 h.n), (10, .ptr 5 0), (15, .slice 3 4 0 h.n cap), (17, .slice 4 1 0 h.n h.n), (18, .int .i64 0)] 0 (List.replicate 314 none)
theorem seg13x (h : HD) (hv : h.Valid) (b : Bool) (c : Nat) (s : Bool) (y : PD) (cap : Nat) :
    CodeP Try.prog none 2 (sufC Try.f13 19) ⟨T13x h s cap, H13x h (rvD h b c) s y, []⟩ (KRet E Try.f13 2 (.bool true) (H13 h y)) := by
  have hn := hv.2.1
  have xv := rv_valid hv b c
  have seg := seg13y h hv s y cap
  refine codeP_XK E_ok 1 ?_
  (repeat' (first | exact trivial | exact fun _ => rfl | exact rfl | refine And.intro ?_ ?_))
  refine loopP E_ok [2, 4, 8, 9, 10, 15, 17, 18, 231] (fun i : Nat => [(232, .int .i64 i)]) (fun _ _ => H13x h (rvD h b c) s y) (fun i => i ≤ h.n) (fun i => h.n - i) 0 (Nat.zero_le _) ?_ ?_
  · exact ent_tau [0, 1, 2, 3, 4, 5, 6] ⟨by (repeat' (first | exact trivial | exact rfl | exact fun _ _ => rfl | exact fun _ _ _ _ => rfl | exact Or.inl rfl | exact Or.inr rfl | refine And.intro ?_ ?_)), by (repeat' (first | exact trivial | exact rfl | exact congrArg (SV.int .i64) (Int.natCast_succ _).symm | exact congrArg (SV.int .u64) (Int.natCast_succ _).symm | refine And.intro ?_ ?_)), rfl⟩
  rintro i hi
  refine And.intro ?_ (And.intro (fun hlt => ?_) (fun hlt => ?_))
  · (repeat' (first | exact trivial | exact fun _ => rfl | exact rfl | refine And.intro ?_ ?_))
  · have hlt' : i < h.n := by
      have := of_decide_eq_true hlt
      omega
    (repeat' (first | exact trivial | exact fun _ => rfl | exact rfl | refine And.intro ?_ ?_))
    all_goals first | exact True.intro | omega | exact u1 (lt64 (by omega)) | exact u0 (lt64 (by omega)) | (show under _ _; simp [under, gB, wB]; done) | (show under _ _; simp [under, gB, wB]; omega) | skip
    refine loopP E_ok [2, 4, 8, 9, 10, 15, 17, 18, 35, 231, 232, 235] (fun k : Nat => [(236, .int .i64 k)]) (fun _ _ => H13x h (rvD h b c) s y) (fun k => k ≤ h.n) (fun k => h.n - k) 0 (Nat.zero_le _) ?_ ?_
    · exact ent_tau [0, 1, 2, 3, 4, 5, 6] ⟨by (repeat' (first | exact trivial | exact rfl | exact fun _ _ => rfl | exact fun _ _ _ _ => rfl | exact Or.inl rfl | exact Or.inr rfl | refine And.intro ?_ ?_)), by (repeat' (first | exact trivial | exact rfl | exact congrArg (SV.int .i64) (Int.natCast_succ _).symm | exact congrArg (SV.int .u64) (Int.natCast_succ _).symm | refine And.intro ?_ ?_)), rfl⟩
    rintro k hk
    refine And.intro ?_ (And.intro (fun hlk => ?_) (fun hlk => ?_))
    · (repeat' (first | exact trivial | exact fun _ => rfl | exact rfl | refine And.intro ?_ ?_))
    · have hlk' : k < h.n := by
        have := of_decide_eq_true hlk
        omega
      have c1 := t16i h hv i k hlt' hlk'
      have c2 := t16i (rvD h b c) xv (rv h.n i) (rv h.n k) (rv_lt (n := h.n) hlt') (rv_lt (n := h.n) hlk')
      rw [rv_fv, rv_rv hlt', rv_rv hlk', show ((rv h.n i : Nat) : Int) = (h.n : Int) - 1 - (i : Nat) by unfold rv; omega, show ((rv h.n k : Nat) : Int) = (h.n : Int) - 1 - (k : Nat) by unfold rv; omega] at c2
      obtain ⟨r, er⟩ : ∃ r, fv h i k = r := ⟨_, rfl⟩
      rw [er] at c1 c2
      (repeat' (first | exact trivial | exact fun _ => rfl | exact rfl | refine And.intro ?_ ?_))
      refine c1.use [0] ?_ (by (repeat' (first | exact trivial | exact rfl | exact fun _ _ => rfl | exact fun _ _ _ _ => rfl | exact Or.inl rfl | exact Or.inr rfl | refine And.intro ?_ ?_))) rfl
      (repeat' (first | exact trivial | exact fun _ => rfl | exact rfl | refine And.intro ?_ ?_))
      all_goals first | omega | skip
      refine c2.use [6] ?_ (by (repeat' (first | exact trivial | exact rfl | exact fun _ _ => rfl | exact fun _ _ _ _ => rfl | exact Or.inl rfl | exact Or.inr rfl | refine And.intro ?_ ?_))) rfl
      all_goals (repeat' (first | exact trivial | exact fun _ => rfl | exact rfl | refine And.intro ?_ ?_))
      all_goals first | exact True.intro | omega | exact u1 (lt64 (by omega)) | exact u0 (lt64 (by omega)) | (show under _ _; simp [under, gB, wB]; done) | (show under _ _; simp [under, gB, wB]; omega) | skip
      all_goals intro g1
      all_goals first | (exfalso; revert g1; simp [gB, wB]; done) | skip
      (repeat' (first | exact trivial | exact fun _ => rfl | exact rfl | refine And.intro ?_ ?_))
      all_goals first | exact True.intro | omega | exact u1 (lt64 (by omega)) | exact u0 (lt64 (by omega)) | (show under _ _; simp [under, gB, wB]; done) | (show under _ _; simp [under, gB, wB]; omega) | skip
      refine ⟨k + 1, hlk', by omega, ?_⟩
      exact ent_tau [0, 1, 2, 3, 4, 5, 6] ⟨by (repeat' (first | exact trivial | exact rfl | exact fun _ _ => rfl | exact fun _ _ _ _ => rfl | exact Or.inl rfl | exact Or.inr rfl | refine And.intro ?_ ?_)), by (repeat' (first | exact trivial | exact rfl | exact congrArg (SV.int .i64) (Int.natCast_succ _).symm | exact congrArg (SV.int .u64) (Int.natCast_succ _).symm | refine And.intro ?_ ?_)), rfl⟩
    · have e : k = h.n := by
        have := of_decide_eq_false hlk
        omega
      subst e
      (repeat' (first | exact trivial | exact fun _ => rfl | exact rfl | refine And.intro ?_ ?_))
      all_goals first | exact True.intro | omega | exact u1 (lt64 (by omega)) | exact u0 (lt64 (by omega)) | (show under _ _; simp [under, gB, wB]; done) | (show under _ _; simp [under, gB, wB]; omega) | skip
      refine ⟨i + 1, hlt', by omega, ?_⟩
      exact ent_tau [0, 1, 2, 3, 4, 5, 6] ⟨by (repeat' (first | exact trivial | exact rfl | exact fun _ _ => rfl | exact fun _ _ _ _ => rfl | exact Or.inl rfl | exact Or.inr rfl | refine And.intro ?_ ?_)), by (repeat' (first | exact trivial | exact rfl | exact congrArg (SV.int .i64) (Int.natCast_succ _).symm | exact congrArg (SV.int .u64) (Int.natCast_succ _).symm | refine And.intro ?_ ?_)), rfl⟩
  · have e : i = h.n := by
      have := of_decide_eq_false hlt
      omega
    subst e
    (repeat' (first | exact trivial | exact fun _ => rfl | exact rfl | refine And.intro ?_ ?_))
    refine CodeP.part seg ?_
    exact ent_tau [0, 1, 2, 3, 4] ⟨by (repeat' (first | exact trivial | exact rfl | exact fun _ _ => rfl | exact fun _ _ _ _ => rfl | exact Or.inl rfl | exact Or.inr rfl | refine And.intro ?_ ?_)), by (repeat' (first | exact trivial | exact rfl | exact congrArg (SV.int .i64) (Int.natCast_succ _).symm | exact congrArg (SV.int .u64) (Int.natCast_succ _).symm | refine And.intro ?_ ?_)), rfl⟩
end Go.Proofs.Ytgofhjihkinknaa
/-
  HorseTurned: as much is told of both.
-/
namespace Go.Proofs.Ytgofhjihkinknaa
open Go Go.Sy Kuhn
set_option linter.unusedSimpArgs false
set_option maxRecDepth 100000
set_option maxHeartbeats 4000000
attribute [local irreducible] CallP CodeP Ent YieldP
set_option maxHeartbeats 40000000
attribute [local irreducible] HD.ch maskO

/-- The plan, from its last move on. -/
def rvP (h : HD) (p : PD) : PD := ⟨h.n, fun i => p.p (rv h.n i), true, h.n⟩
theorem rvP_pok {h : HD} {p : PD} (hp : pok h p = true) (b : Bool) (c : Nat) : pok (rvD h b c) (rvP h p) = true := by
  unfold pok at hp ⊢
  simp only [Bool.and_eq_true, decide_eq_true_eq] at hp ⊢
  refine ⟨rfl, ?_⟩
  have hb := hp.2
  rw [Bool.not_eq_true'] at hb ⊢
  refine bad_iff.2 fun k hk => ?_
  exact bad_iff.1 hb _ (by rw [hp.1]; exact rv_lt hk)
def H13w (h x : HD) (y p q : PD) : SHeap := H13z h y ++ [some (.roc [.int .i64 x.pace, .osl x.b 5 4 x.n x.cap]), some (.roa 4 x.n (HD.F x)), some (.roa 1 p.n (PD.F p)), some (.roa 1 q.n (PD.F q))]
def V13w (h : HD) (s : Bool) (p q : PD) (cap : Nat) : List (Nat × SV) := [(2, .bool s), (4, .ptr 2 0), (8, .bool false), (9, .int .i64 h.n), (10, .ptr 4 0), (11, .osl p.b 6 1 p.n p.cap), (12, .osl q.b 7 1 q.n q.cap), (15, .slice 3 4 0 h.n cap)]
noncomputable def T13v (h : HD) (s : Bool) (p q : PD) (cap : Nat) (f P1 P2 L1 L2 : Nat) (e : Int) : Tm := mkT [] (V13w h s p q cap ++ [(16, .int .i64 f), (17, .slice 8 1 0 h.n h.n), (18, .int .i64 0), (19, .int .i64 f), (21, .int .i64 0), (22, .int .i64 P1), (23, .int .i64 0), (24, .int .i64 P2), (25, .int .i64 0), (26, .int .i64 L1), (27, .int .i64 0), (28, .int .i64 L2), (29, .int .i64 0), (30, .ptr 9 0), (31, .int .i64 e), (32, .ptr 10 0), (33, .int .i64 e), (34, .fn (.func 42) [] [])]) 0 (List.replicate 314 none)
theorem seg13v (h : HD) (hv : h.Valid) (b : Bool) (c : Nat) (s : Bool) (y p : PD) (hp : pok h p = true) (cap : Nat) (f P1 P2 L1 L2 : Nat) (hP1 : P1 < 128) (hP2 : P2 < 128) (hP : pop P1 = pop P2) (hL1 : L1 < 128) (hL2 : L2 < 128) (hL : pop L1 = pop L2) (b1 b2 e : Int) :
    CodeP Try.prog none 2 (sufC Try.f13 18) ⟨T13v h s p (rvP h p) cap f P1 P2 L1 L2 e, H13w h (rvD h b c) y p (rvP h p) ++ [some (.arr 1 h.n h.n (plF h s)), some (.roc [.int .i64 b1, .int .i64 b2]), some (.roc [.int .i64 b1, .int .i64 b2])], []⟩ (KRet E Try.f13 2 (.bool true) (H13 h y)) := by
  have hn := hv.2.1
  have xv := rv_valid hv b c
  have hpn : p.n = h.n := by
    unfold pok at hp
    simp only [Bool.and_eq_true, decide_eq_true_eq] at hp
    exact hp.1
  have q1 := t42 P1 hP1
  have q2 := t42 P2 hP2
  have q3 := t42 L1 hL1
  have q4 := t42 L2 hL2
  rw [hP] at q1
  rw [hL] at q3
  have q5 := t40 h p (by omega) s
  have q6 := t40 (rvD h b c) (rvP h p) (show h.n ≤ 1000000 by omega) s
  rw [rv_rightB hv b c hp (rvP_pok hp b c) (fun i _ => rfl)] at q6
  obtain ⟨r, er⟩ : ∃ r, rightB h s p = r := ⟨_, rfl⟩
  rw [er] at q5 q6
  have g1 : ¬ ((P1 : Nat) : Int) < 0 := by omega
  have g2 : ¬ ((P2 : Nat) : Int) < 0 := by omega
  have g3 : ¬ ((L1 : Nat) : Int) < 0 := by omega
  have g4 : ¬ ((L2 : Nat) : Int) < 0 := by omega
  have seg := seg13x h hv b c s y cap
  refine codeP_XK E_ok 1 ?_
  (repeat' (first | exact trivial | exact fun _ => rfl | exact rfl | refine And.intro ?_ ?_))
  refine drawP E_ok [] pl13_26 (by kernel_rfl) ?_
  all_goals (repeat' (first | exact trivial | exact fun _ => rfl | exact rfl | refine And.intro ?_ ?_))
  all_goals first | exact True.intro | omega | exact u1 (lt64 (by omega)) | exact u0 (lt64 (by omega)) | (show under _ _; simp [under, gB, wB]; done) | (show under _ _; simp [under, gB, wB]; omega) | skip
  all_goals intro u1
  all_goals first | (exfalso; revert u1; simp [gB, wB, g1, g2, g3, g4]; done) | skip
  refine q1.use [] ?_ trivial rfl
  all_goals (repeat' (first | exact trivial | exact fun _ => rfl | exact rfl | refine And.intro ?_ ?_))
  all_goals first | exact True.intro | omega | exact u1 (lt64 (by omega)) | exact u0 (lt64 (by omega)) | (show under _ _; simp [under, gB, wB]; done) | (show under _ _; simp [under, gB, wB]; omega) | skip
  all_goals intro u2
  all_goals first | (exfalso; revert u2; simp [gB, wB, g1, g2, g3, g4]; done) | skip
  refine q2.use [] ?_ trivial rfl
  all_goals (repeat' (first | exact trivial | exact fun _ => rfl | exact rfl | refine And.intro ?_ ?_))
  all_goals first | exact True.intro | omega | exact u1 (lt64 (by omega)) | exact u0 (lt64 (by omega)) | (show under _ _; simp [under, gB, wB]; done) | (show under _ _; simp [under, gB, wB]; omega) | skip
  all_goals intro u3
  all_goals first | (exfalso; revert u3; simp [gB, wB, g1, g2, g3, g4]; done) | skip
  refine q3.use [] ?_ trivial rfl
  all_goals (repeat' (first | exact trivial | exact fun _ => rfl | exact rfl | refine And.intro ?_ ?_))
  all_goals first | exact True.intro | omega | exact u1 (lt64 (by omega)) | exact u0 (lt64 (by omega)) | (show under _ _; simp [under, gB, wB]; done) | (show under _ _; simp [under, gB, wB]; omega) | skip
  all_goals intro u4
  all_goals first | (exfalso; revert u4; simp [gB, wB, g1, g2, g3, g4]; done) | skip
  refine q4.use [] ?_ trivial rfl
  all_goals (repeat' (first | exact trivial | exact fun _ => rfl | exact rfl | refine And.intro ?_ ?_))
  all_goals first | exact True.intro | omega | exact u1 (lt64 (by omega)) | exact u0 (lt64 (by omega)) | (show under _ _; simp [under, gB, wB]; done) | (show under _ _; simp [under, gB, wB]; omega) | skip
  all_goals intro u5
  all_goals first | (exfalso; revert u5; simp [gB, wB, g1, g2, g3, g4]; done) | skip
  refine q5.use [0, 6] ?_ (by (repeat' (first | exact trivial | exact rfl | exact fun _ _ => rfl | exact fun _ _ _ _ => rfl | exact Or.inl rfl | exact Or.inr rfl | refine And.intro ?_ ?_))) rfl
  all_goals (repeat' (first | exact trivial | exact fun _ => rfl | exact rfl | refine And.intro ?_ ?_))
  all_goals first | exact True.intro | omega | exact u1 (lt64 (by omega)) | exact u0 (lt64 (by omega)) | (show under _ _; simp [under, gB, wB]; done) | (show under _ _; simp [under, gB, wB]; omega) | skip
  all_goals intro u6
  all_goals first | (exfalso; revert u6; simp [gB, wB, g1, g2, g3, g4]; done) | skip
  refine q6.use [5, 7] ?_ (by (repeat' (first | exact trivial | exact rfl | exact fun _ _ => rfl | exact fun _ _ _ _ => rfl | exact Or.inl rfl | exact Or.inr rfl | refine And.intro ?_ ?_))) rfl
  all_goals (repeat' (first | exact trivial | exact fun _ => rfl | exact rfl | refine And.intro ?_ ?_))
  all_goals first | exact True.intro | omega | exact u1 (lt64 (by omega)) | exact u0 (lt64 (by omega)) | (show under _ _; simp [under, gB, wB]; done) | (show under _ _; simp [under, gB, wB]; omega) | skip
  all_goals intro u7
  all_goals first | (exfalso; revert u7; simp [gB, wB, g1, g2, g3, g4]; done) | skip
  (repeat' (first | exact trivial | exact fun _ => rfl | exact rfl | refine And.intro ?_ ?_))
  refine CodeP.part seg ?_
  exact ent_tau [0, 1, 2, 3, 8, 4, 5] ⟨by (repeat' (first | exact trivial | exact rfl | exact fun _ _ => rfl | exact fun _ _ _ _ => rfl | exact Or.inl rfl | exact Or.inr rfl | refine And.intro ?_ ?_)), by (repeat' (first | exact trivial | exact rfl | exact congrArg (SV.int .i64) (Int.natCast_succ _).symm | exact congrArg (SV.int .u64) (Int.natCast_succ _).symm | refine And.intro ?_ ?_)), rfl⟩
end Go.Proofs.Ytgofhjihkinknaa
/-
  HorseTurned: what is told of both.
-/
namespace Go.Proofs.Ytgofhjihkinknaa
open Go Go.Sy Kuhn
set_option linter.unusedSimpArgs false
set_option maxRecDepth 100000
set_option maxHeartbeats 4000000
attribute [local irreducible] CallP CodeP Ent YieldP
set_option maxHeartbeats 40000000
attribute [local irreducible] HD.ch maskO

noncomputable def T13w (h : HD) (s : Bool) (nb : Int) (p q : PD) (cap : Nat) : Tm := mkT [] ((3, .int .u8 nb) :: V13w h s p q cap) 0 (List.replicate 314 none)
theorem seg13w (h : HD) (hv : h.Valid) (b : Bool) (c : Nat) (s : Bool) (nb : Int) (hnb : 0 ≤ nb ∧ nb ≤ 255) (y p : PD) (hp : pok h p = true) (cap : Nat) :
    CodeP Try.prog none 2 (sufC Try.f13 9) ⟨T13w h s nb p (rvP h p) cap, H13w h (rvD h b c) y p (rvP h p), []⟩ (KRet E Try.f13 2 (.bool true) (H13 h y)) := by
  have hn := hv.2.1
  have xv := rv_valid hv b c
  have hm : 0 ≤ nb.tmod 8 ∧ nb.tmod 8 < 8 := ⟨Int.tmod_nonneg _ hnb.1, Int.tmod_lt_of_pos _ (by omega)⟩
  have c1 := t26 h hv s
  have c2 := t26 (rvD h b c) xv s
  rw [rv_few hv] at c2
  have c3 := t28 h hv s
  have c4 := t28 (rvD h b c) xv s
  have c5 := t31 h hv s (nb.tmod 8) (inB_iff.2 (by omega))
  have c6 := t31 (rvD h b c) xv s (nb.tmod 8) (inB_iff.2 (by omega))
  have c7 := t22 h nb
  have c8 := t22 (rvD h b c) nb
  rw [rv_bus hv] at c8
  have seg := seg13v h hv b c s y p hp cap (h.few s) (prfS h s) (prfS (rvD h b c) s) (lveS h s (nb.tmod 8)) (lveS (rvD h b c) s (nb.tmod 8)) (prf128 hv s) (prf128 xv s) (rv_prf hv b c s).symm (lve128 hv s hm.1) (lve128 xv s hm.1) (rv_lve hv b c s hm.1).symm (HD.bus h nb).1 (HD.bus h nb).2.1 (HD.bus h nb).2.2
  refine codeP_XK E_ok 9 ?_
  (repeat' (first | exact trivial | exact fun _ => rfl | exact rfl | refine And.intro ?_ ?_))
  refine c1.use [0] ?_ (by (repeat' (first | exact trivial | exact rfl | exact fun _ _ => rfl | exact fun _ _ _ _ => rfl | exact Or.inl rfl | exact Or.inr rfl | refine And.intro ?_ ?_))) rfl
  (repeat' (first | exact trivial | exact fun _ => rfl | exact rfl | refine And.intro ?_ ?_))
  refine c2.use [5] ?_ (by (repeat' (first | exact trivial | exact rfl | exact fun _ _ => rfl | exact fun _ _ _ _ => rfl | exact Or.inl rfl | exact Or.inr rfl | refine And.intro ?_ ?_))) rfl
  (repeat' (first | exact trivial | exact fun _ => rfl | exact rfl | refine And.intro ?_ ?_))
  refine c3.use [0] ?_ (by (repeat' (first | exact trivial | exact rfl | exact fun _ _ => rfl | exact fun _ _ _ _ => rfl | exact Or.inl rfl | exact Or.inr rfl | refine And.intro ?_ ?_))) rfl
  (repeat' (first | exact trivial | exact fun _ => rfl | exact rfl | refine And.intro ?_ ?_))
  refine c4.use [5] ?_ (by (repeat' (first | exact trivial | exact rfl | exact fun _ _ => rfl | exact fun _ _ _ _ => rfl | exact Or.inl rfl | exact Or.inr rfl | refine And.intro ?_ ?_))) rfl
  (repeat' (first | exact trivial | exact fun _ => rfl | exact rfl | refine And.intro ?_ ?_))
  all_goals first | omega | exact u0 (by decide) | skip
  refine c5.use [0] ?_ (by (repeat' (first | exact trivial | exact rfl | exact fun _ _ => rfl | exact fun _ _ _ _ => rfl | exact Or.inl rfl | exact Or.inr rfl | refine And.intro ?_ ?_))) rfl
  (repeat' (first | exact trivial | exact fun _ => rfl | exact rfl | refine And.intro ?_ ?_))
  all_goals first | omega | exact u0 (by decide) | skip
  refine c6.use [5] ?_ (by (repeat' (first | exact trivial | exact rfl | exact fun _ _ => rfl | exact fun _ _ _ _ => rfl | exact Or.inl rfl | exact Or.inr rfl | refine And.intro ?_ ?_))) rfl
  (repeat' (first | exact trivial | exact fun _ => rfl | exact rfl | refine And.intro ?_ ?_))
  all_goals first | omega | exact u0 (by decide) | skip
  refine c7.use [0] ?_ (by (repeat' (first | exact trivial | exact rfl | exact fun _ _ => rfl | exact fun _ _ _ _ => rfl | exact Or.inl rfl | exact Or.inr rfl | refine And.intro ?_ ?_))) rfl
  (repeat' (first | exact trivial | exact fun _ => rfl | exact rfl | refine And.intro ?_ ?_))
  all_goals first | omega | exact u0 (by decide) | skip
  refine c8.use [5] ?_ (by (repeat' (first | exact trivial | exact rfl | exact fun _ _ => rfl | exact fun _ _ _ _ => rfl | exact Or.inl rfl | exact Or.inr rfl | refine And.intro ?_ ?_))) rfl
  (repeat' (first | exact trivial | exact fun _ => rfl | exact rfl | refine And.intro ?_ ?_))
  refine CodeP.part seg ?_
  exact ent_tau [0, 1, 2, 3, 4, 5, 6, 7, 8, 10, 11] ⟨by (repeat' (first | exact trivial | exact rfl | exact fun _ _ => rfl | exact fun _ _ _ _ => rfl | exact Or.inl rfl | exact Or.inr rfl | refine And.intro ?_ ?_)), by (repeat' (first | exact trivial | exact rfl | exact congrArg (SV.int .i64) (Int.natCast_succ _).symm | exact congrArg (SV.int .u64) (Int.natCast_succ _).symm | refine And.intro ?_ ?_)), rfl⟩
end Go.Proofs.Ytgofhjihkinknaa
