/-
  Parts: Qf, Qe, Qx, Sa, Sb, Sc, Sd, Se.
-/
import Derived.Test.YtgofhjihkinknaaK25
import Derived.Test.YtgofhjihkinknaaK23
import Derived.Test.YtgofhjihkinknaaK14
set_option linter.unusedVariables false
/-
  Contracts: right, Used, Size.
-/
namespace Go.Proofs.Ytgofhjihkinknaa
open Go Go.Sy Kuhn
set_option linter.unusedSimpArgs false
set_option maxRecDepth 100000
set_option maxHeartbeats 4000000
attribute [local irreducible] CallP CodeP Ent YieldP
attribute [local irreducible] HD.ch maskO

/-- What Check tells is there. -/
theorem chk_spec {h : HD} (hv : h.Valid) {s : Bool} {pl : PD} (hpl : pok h pl = true) : Chk h s pl (HD.chk h s pl) := by
  have hex : ∃ r, Chk h s pl r := by
    by_cases H : ∃ m : Nat, m / 8 < m % 8 ∧ m % 8 < h.n ∧ twoBad h s pl (m / 8) (m % 8)
    · have hn := hv.2.1
      obtain ⟨m, ⟨m1, m2, m3⟩, hmin⟩ : ∃ m, (m / 8 < m % 8 ∧ m % 8 < h.n ∧ twoBad h s pl (m / 8) (m % 8)) ∧ ∀ m', m' < m → ¬ (m' / 8 < m' % 8 ∧ m' % 8 < h.n ∧ twoBad h s pl (m' / 8) (m' % 8)) := by
        obtain ⟨m, hm⟩ := H
        induction m using Nat.strongRecOn with
        | _ m ih =>
          by_cases c : ∃ m', m' < m ∧ (m' / 8 < m' % 8 ∧ m' % 8 < h.n ∧ twoBad h s pl (m' / 8) (m' % 8))
          · obtain ⟨m', a, b⟩ := c
            exact ih m' a b
          · exact ⟨m, hm, fun m' a b => c ⟨m', a, b⟩⟩
      refine ⟨_, .inr (.inr ⟨hv, hpl, .inl ⟨m / 8, m % 8, ⟨m1, m2, m3⟩, fun i k h1 h2 h3 => ?_, rfl⟩⟩)⟩
      have e1 : (i * 8 + k) / 8 = i := by omega
      have e2 : (i * 8 + k) % 8 = k := by omega
      by_cases c : i * 8 + k < m
      · exact absurd ⟨by rw [e1, e2]; exact h1, by rw [e2]; exact h2, by rw [e1, e2]; exact h3⟩ (hmin _ c)
      · omega
    · have hn := hv.2.1
      refine ⟨_, .inr (.inr ⟨hv, hpl, .inr ⟨fun i k h1 h2 h3 => H ⟨i * 8 + k, ?_⟩, rfl⟩⟩)⟩
      have e1 : (i * 8 + k) / 8 = i := by omega
      have e2 : (i * 8 + k) % 8 = k := by omega
      rw [e1, e2]
      exact ⟨h1, h2, h3⟩
  unfold HD.chk
  rw [dif_pos hex]
  exact hex.choose_spec
/-- Is a plan right? -/
noncomputable def rightB (h : HD) (s : Bool) (pl : PD) : Bool := decide ((HD.chk h s pl).2.2 = 4)
theorem rightB_iff {h : HD} (hv : h.Valid) {s : Bool} {pl : PD} (hpl : pok h pl = true) : rightB h s pl = true ↔ h.Right s HD.full pl.p := by
  unfold rightB
  rw [decide_eq_true_eq]
  rcases chk_spec hv (s := s) hpl with ⟨a, _⟩ | ⟨_, a, _⟩ | ⟨_, _, c⟩
  · exact absurd hv a
  · rw [hpl] at a
    cases a
  · rcases c with ⟨i, k, ⟨h1, h2, h3, h4⟩, _, e⟩ | ⟨H, e⟩
    · rw [e]
      constructor
      · intro x
        simp at x
      · intro R
        have := R i k (by omega) h2 rfl rfl (by omega) h3
        rw [h4] at this
        cases this
    · rw [e]
      refine ⟨fun _ i k hi hk _ _ hne e2 => ?_, fun _ => rfl⟩
      cases ha : h.apart s i k with
      | false => rfl
      | true =>
        rcases Nat.lt_or_gt_of_ne hne with c | c
        · exact absurd ⟨e2, ha⟩ (H i k c hk)
        · exact absurd ⟨e2.symm, by rw [HD.apart_comm]; exact ha⟩ (H k i c hi)
theorem t40 (h : HD) (pl : PD) (hn : pl.n ≤ 1000000) (s : Bool) : CallP Try.prog 40 [HD.A h, .osl pl.b 1 1 pl.n pl.cap, .bool s] (HD.H h ++ [some (.roa 1 pl.n (PD.F pl))]) (Ret (.bool (rightB h s pl)) (HD.H h ++ [some (.roa 1 pl.n (PD.F pl))])) := by
  have c18 := t18 h pl hn s
  refine callR (E := E) E_ok Try.func40 rfl ?_
  (repeat' (first | exact trivial | exact fun _ => rfl | exact rfl | refine And.intro ?_ ?_))
  refine c18.use [0, 1] ?_ (by (repeat' (first | exact trivial | exact rfl | exact fun _ _ => rfl | exact fun _ _ _ _ => rfl | exact Or.inl rfl | exact Or.inr rfl | refine And.intro ?_ ?_))) rfl
  (repeat' (first | exact trivial | exact fun _ => rfl | exact rfl | refine And.intro ?_ ?_))
  all_goals first | exact True.intro | omega | exact u1 (lt64 (by omega)) | exact u0 (lt64 (by omega)) | (show under _ _; simp [under, gB, wB]; done) | (show under _ _; simp [under, gB, wB]; omega) | skip
  exact ent_tau [0, 1] ⟨by (repeat' (first | exact trivial | exact rfl | exact fun _ _ => rfl | exact fun _ _ _ _ => rfl | exact Or.inl rfl | exact Or.inr rfl | refine And.intro ?_ ?_)), by (repeat' (first | exact trivial | exact rfl | exact congrArg (SV.int .i64) (Int.natCast_succ _).symm | exact congrArg (SV.int .u64) (Int.natCast_succ _).symm | refine And.intro ?_ ?_)), rfl⟩
theorem pop_half : ∀ S : Fin 128, pop S = S.val % 2 + pop (S.val / 2) := by decide +kernel
theorem pop_step {m : Nat} (h : m < 128) : pop m = m % 2 + pop (m / 2) := pop_half ⟨m, h⟩
theorem pop_zero : pop 0 = 0 := by decide +kernel
theorem pop_le7 (S : Nat) : pop S ≤ 7 := cnt_bnd _ 7
theorem t42 (S : Nat) (hS : S < 128) : CallP Try.prog 42 [.int .i64 S] [] (Ret (.int .i64 (pop S : Nat)) []) := by
  refine callR (E := E) E_ok Try.func42 rfl ?_
  (repeat' (first | exact trivial | exact fun _ => rfl | exact rfl | refine And.intro ?_ ?_))
  refine loopP E_ok [] (fun g : Nat × Nat => [(0, .int .i64 g.1), (3, .int .i64 g.2)]) (fun _ H => H) (fun g => g.1 < 128 ∧ g.2 + pop g.1 = pop S) (fun g => g.1) (S, 0) ⟨hS, Nat.zero_add _⟩ ?_ ?_
  · exact ent_tau [] ⟨by (repeat' (first | exact trivial | exact rfl | exact fun _ _ => rfl | exact fun _ _ _ _ => rfl | exact Or.inl rfl | exact Or.inr rfl | refine And.intro ?_ ?_)), by (repeat' (first | exact trivial | exact rfl | exact congrArg (SV.int .i64) (Int.natCast_succ _).symm | exact congrArg (SV.int .u64) (Int.natCast_succ _).symm | refine And.intro ?_ ?_)), rfl⟩
  rintro ⟨m, j⟩ ⟨hm, hj⟩
  simp only at hm hj
  have hp := pop_step hm
  have h7 := pop_le7 S
  refine And.intro ?_ (And.intro (fun hc => ?_) (fun hc => ?_))
  · (repeat' (first | exact trivial | exact fun _ => rfl | exact rfl | refine And.intro ?_ ?_))
  · have hm0 : 0 < m := by
      have := of_decide_eq_true hc
      omega
    have e1 : ((m : Nat) : Int).tmod 2 = ((m % 2 : Nat) : Int) := by
      rw [Int.tmod_eq_emod_of_nonneg (by omega)]
      rfl
    have e2 : ((m : Nat) : Int).tdiv 2 = ((m / 2 : Nat) : Int) := by
      rw [Int.tdiv_eq_ediv_of_nonneg (by omega)]
      rfl
    (repeat' (first | exact trivial | exact fun _ => rfl | exact rfl | refine And.intro ?_ ?_))
    all_goals first | (first | omega | exact u0 (by omega) | exact u1 (by omega) | exact u1 ⟨by omega, by omega⟩ | exact un (by omega) | exact fun hh => hh | exact fun hh => absurd hh (by decide) | exact fun hh => congrArg not hh | exact fun hh => Bool.noConfusion (show true = false from hh) | exact fun hh => Bool.noConfusion (show false = true from hh)) | (rw [e1]; omega) | (rw [e2]; omega) | skip
    refine ⟨(m / 2, j + m % 2), ⟨by simp only; omega, by simp only; omega⟩, by simp only; omega, ?_⟩
    refine ent_tau [] ⟨by (repeat' (first | exact trivial | exact rfl | exact fun _ _ => rfl | exact fun _ _ _ _ => rfl | exact Or.inl rfl | exact Or.inr rfl | refine And.intro ?_ ?_)), ?_, rfl⟩
    (repeat' (first | exact trivial | exact rfl | exact congrArg (SV.int .i64) e2 | exact congrArg (SV.int .i64) (by rw [e1]; exact (Int.natCast_add _ _).symm) | refine And.intro ?_ ?_))
  · have e : m = 0 := by
      have := of_decide_eq_false hc
      omega
    subst e
    have e2 : j = pop S := by rw [← hj, pop_zero]; rfl
    (repeat' (first | exact trivial | exact fun _ => rfl | exact rfl | refine And.intro ?_ ?_))
    refine ent_tau [] ⟨by (repeat' (first | exact trivial | exact rfl | exact fun _ _ => rfl | exact fun _ _ _ _ => rfl | exact Or.inl rfl | exact Or.inr rfl | refine And.intro ?_ ?_)), ⟨rfl, ?_, trivial⟩, rfl⟩
    exact congrArg (fun z : Nat => SV.int .i64 z) e2
end Go.Proofs.Ytgofhjihkinknaa
/-
  Plain law: sets as signed numbers.
-/
namespace Go.Proofs.Ytgofhjihkinknaa
open Go Go.Sy Kuhn
set_option maxRecDepth 100000

theorem wrap64 (x : Nat) (h : x < 2 ^ 63) : IntKind.wrap .i64 (x : Int) = x := wrap_in (k := .i64) ⟨by omega, by omega⟩
theorem and64 {a b : Nat} (ha : a < 2 ^ 63) (hb : b < 2 ^ 64) : bitOp .and .i64 (a : Int) (b : Int) = ((a &&& b : Nat) : Int) := by
  show IntKind.wrap .i64 ((BitVec.ofInt 64 (a : Int) &&& BitVec.ofInt 64 (b : Int)).toNat : Int) = _
  rw [ofInt_nat, ofInt_nat, BitVec.toNat_and, BitVec.toNat_ofNat, BitVec.toNat_ofNat, Nat.mod_eq_of_lt (by omega), Nat.mod_eq_of_lt hb]
  exact wrap64 _ (Nat.lt_of_le_of_lt Nat.and_le_left ha)
theorem has0 {S n : Nat} (hS : S < 2 ^ 63) : decide (bitOp .and .i64 ((S : Int).fdiv (2 ^ n)) 1 = 0) = !S.testBit n := by
  have e : (S : Int).fdiv (2 ^ n) = ((S / 2 ^ n : Nat) : Int) := by
    rw [Int.fdiv_eq_ediv_of_nonneg _ (by have := Nat.pow_pos (n := n) (show 0 < 2 by omega); exact_mod_cast Nat.zero_le _)]
    norm_cast
  have h1 : S / 2 ^ n < 2 ^ 63 := Nat.lt_of_le_of_lt (Nat.div_le_self _ _) hS
  have e2 := and64 (a := S / 2 ^ n) (b := 1) h1 (by decide)
  rw [e]
  have e3 : bitOp .and .i64 ((S / 2 ^ n : Nat) : Int) 1 = ((S / 2 ^ n &&& 1 : Nat) : Int) := e2
  rw [e3, Nat.and_one_is_mod, Nat.testBit_eq_decide_div_mod_eq]
  by_cases c : S / 2 ^ n % 2 = 1
  · rw [decide_eq_true c, decide_eq_false (by omega)]
    rfl
  · rw [decide_eq_false c, decide_eq_true (by omega)]
    rfl
end Go.Proofs.Ytgofhjihkinknaa
/-
  Contracts: when moves truly begin.
-/
namespace Go.Proofs.Ytgofhjihkinknaa
open Go Go.Sy Kuhn
set_option linter.unusedSimpArgs false
set_option maxRecDepth 100000
set_option maxHeartbeats 4000000
attribute [local irreducible] CallP CodeP Ent YieldP
attribute [local irreducible] HD.ch maskO

/-- When moves begin, if they take so long. -/
def thL (h : HD) (lg : Nat → Int) : Int → Nat → Nat → Int := fun b m k => b + lg m + h.pace * h.dist m k
def TL (h : HD) (pl : PD) (lg : Nat → Int) : Nat → Int := tmS h.at' pl.p (thL h lg) (srtF h.at' h.n) h.n
theorem TL_beg (h : HD) (pl : PD) (lg : Nat → Int) : Beg h.n h.at' pl.p (thL h lg) (TL h pl lg) := tmS_beg h.at' pl.p (thL h lg)
theorem T59_TL (h : HD) (pl : PD) (s : Bool) : T59 h pl s = TL h pl (h.takes s) := rfl
end Go.Proofs.Ytgofhjihkinknaa
/-
  HorseMore: plain law: quicker horses, shorter moves; moves of which it is known how long they take.
-/
namespace Go.Proofs.Ytgofhjihkinknaa
open Go Go.Sy Kuhn
set_option linter.unusedSimpArgs false
set_option maxRecDepth 100000
set_option maxHeartbeats 4000000
attribute [local irreducible] CallP CodeP Ent YieldP
attribute [local irreducible] HD.ch maskO

/-- The same moves, no one of which takes longer, and a pace that is no slower. -/
structure Less (x h : HD) : Prop where
  n : x.n = h.n
  at' : x.at' = h.at'
  pl : x.pl = h.pl
  pace : 0 ≤ x.pace ∧ x.pace ≤ h.pace
  mv : ∀ i, i < h.n → 1 ≤ x.lo i ∧ x.lo i ≤ x.hi i ∧ x.lo i ≤ h.lo i ∧ x.hi i ≤ h.hi i
theorem Less.valid {x h : HD} (L : Less x h) (hv : h.Valid) : x.Valid := by
  refine ⟨⟨L.pace.1, by have := hv.1.2; have := L.pace.2; omega⟩, by rw [L.n]; exact hv.2.1, fun i hi => ?_⟩
  rw [L.n] at hi
  have m := hv.2.2 i hi
  have l := L.mv i hi
  unfold HD.okMv at m ⊢
  rw [L.at', L.pl]
  omega
theorem Less.takes {x h : HD} (L : Less x h) (s : Bool) {i : Nat} (hi : i < h.n) : x.takes s i ≤ h.takes s i := by
  have l := L.mv i hi
  cases s <;> simp only [HD.takes] <;> omega
theorem Less.walk {x h : HD} (L : Less x h) (i k : Nat) : x.pace * x.dist i k ≤ h.pace * h.dist i k := by
  have e : x.dist i k = h.dist i k := by
    unfold HD.dist
    rw [L.pl]
  rw [e]
  exact Int.mul_le_mul_of_nonneg_right L.pace.2 (h.dist_nonneg i k)
theorem Less.can {x h : HD} (L : Less x h) {s : Bool} {i k : Nat} (hi : i < h.n) (hc : h.can s i k = true) : x.can s i k = true := by
  rw [HD.can_iff] at hc ⊢
  have := L.takes s hi
  have := L.walk i k
  rw [L.at']
  omega
theorem Less.few {x h : HD} (L : Less x h) (hv : h.Valid) (s : Bool) : x.few s ≤ h.few s :=
  HD.few_can (L.valid hv) hv L.n (fun a b ha _ c => L.can ha c) HD.full
theorem Less.right {x h : HD} (L : Less x h) {s : Bool} {p : Nat → Int} (hr : h.Right s HD.full p) : x.Right s HD.full p := by
  intro i k hi hk oi ok hne e
  rw [L.n] at hi hk
  rcases HD.apart_false.1 (hr i k hi hk oi ok hne e) with c | c
  · exact HD.apart_false.2 (.inl (L.can hi c))
  · exact HD.apart_false.2 (.inr (L.can hk c))
theorem Less.pok {x h : HD} (L : Less x h) (pl : PD) : pok x pl = pok h pl := by
  unfold Go.Proofs.Ytgofhjihkinknaa.pok
  rw [L.n]
theorem Less.rightB {x h : HD} (L : Less x h) (hv : h.Valid) {s : Bool} {pl : PD} (hpl : Go.Proofs.Ytgofhjihkinknaa.pok h pl = true) : rightB h s pl = true → rightB x s pl = true := fun e =>
  (rightB_iff (L.valid hv) (by rw [L.pok]; exact hpl)).2 (L.right ((rightB_iff hv hpl).1 e))
theorem Less.beg {x h : HD} (L : Less x h) (hv : h.Valid) (pl : PD) (s : Bool) {i : Nat} (hi : i < h.n) : T59 x pl s i ≤ T59 h pl s i := by
  have B := TL_beg x pl (x.takes s)
  rw [L.n, L.at'] at B
  rw [T59_TL, T59_TL]
  refine beg_le (n := h.n) (fun k hk => (hv.2.2 k hk).1.1) (by have := hv.2.1; omega) B (TL_beg h pl (h.takes s)) (fun b b' m k hm hk hb => ?_) _ i (Nat.lt_succ_self _) hi
  have := L.takes s hm
  have := L.walk m k
  unfold thL
  omega
/-- Moves of which it is known how long they take. -/
def knD (h : HD) (b : Bool) (cap : Nat) : HD := ⟨h.pace, h.n, h.at', h.pl, h.hi, h.hi, b, cap⟩
theorem kn_valid {h : HD} (hv : h.Valid) (b : Bool) (cap : Nat) : (knD h b cap).Valid := by
  refine ⟨hv.1, hv.2.1, fun i hi => ?_⟩
  have m := hv.2.2 i hi
  unfold HD.okMv at m ⊢
  simp only [knD]
  omega
theorem kn_can (h : HD) (b : Bool) (cap : Nat) (t : Bool) (i k : Nat) : (knD h b cap).can t i k = h.can true i k := by cases t <;> rfl
theorem kn_few {h : HD} (hv : h.Valid) (b : Bool) (cap : Nat) (t : Bool) : (knD h b cap).few t = h.few true := by
  apply Nat.le_antisymm
  · exact HD.few_can (kn_valid hv b cap) hv rfl (fun i k _ _ c => by rw [kn_can]; exact c) HD.full
  · exact HD.few_can hv (kn_valid hv b cap) rfl (fun i k _ _ c => by rw [kn_can] at c; exact c) HD.full
theorem lve_less {h : HD} (hv : h.Valid) {m : Int} (hm : 0 ≤ m) : pop (lveS h false m) ≤ pop (lveS h true m) := by
  obtain ⟨a1, a2, _⟩ := lve_ok hv true hm
  obtain ⟨_, _, b3⟩ := lve_ok hv false hm
  have := b3 _ a1 (by
    unfold okWo at a2 ⊢
    have := of_decide_eq_true a2
    have := HD.few_sure hv (fun i => (sdiff h.every (lveS h true m)).testBit i)
    exact decide_eq_true (by omega))
  rcases this with e | e
  · rw [e]; exact Nat.le_refl _
  · unfold Prior at e
    simp only at e
    omega
theorem lve128 {h : HD} (hv : h.Valid) (s : Bool) {m : Int} (hm : 0 ≤ m) : lveS h s m < 128 :=
  Nat.lt_of_lt_of_le (lve_ok hv s hm).1 (Nat.pow_le_pow_right (n := 2) (by omega) hv.2.1)
theorem few_two {h : HD} (hv : h.Valid) : h.few false ≤ h.few true := HD.few_sure hv HD.full
end Go.Proofs.Ytgofhjihkinknaa
/-
  HorseMore: the last two loops.
-/
namespace Go.Proofs.Ytgofhjihkinknaa
open Go Go.Sy Kuhn
set_option linter.unusedSimpArgs false
set_option maxRecDepth 100000
set_option maxHeartbeats 4000000
attribute [local irreducible] CallP CodeP Ent YieldP
set_option maxHeartbeats 40000000
attribute [local irreducible] HD.ch maskO

def H12 (h : HD) (y : PD) : SHeap := HD.H h ++ [some (.roa 1 y.n (BDF y))]
def bx (x : HD) : List SV := [.int .i64 x.pace, .osl x.b 4 4 x.n x.cap]
def H12h (h x : HD) (y pl : PD) : SHeap := HD.H h ++ [some (.roa 1 y.n (BDF y)), some (.roc (bc h)), some (.roc (bx x)), some (.roa 4 x.n (HD.F x)), some (.roa 1 pl.n (PD.F pl))]
noncomputable def T12h (pl : PD) : Tm := mkT [] [(4, .ptr 2 0), (8, .bool false), (22, .ptr 3 0), (32, .osl pl.b 5 1 pl.n pl.cap)] 0 (List.replicate 320 none)
theorem seg12h (h x : HD) (hv : h.Valid) (L : Less x h) (y pl : PD) (hpl : pok h pl = true) :
    CodeP Try.prog none 2 (sufC Try.f12 21) ⟨T12h pl, H12h h x y pl, []⟩ (KRet E Try.f12 2 (.bool true) (H12 h y)) := by
  have hn := hv.2.1
  have xv := L.valid hv
  have hpn : pl.n = h.n := by
    unfold pok at hpl
    simp only [Bool.and_eq_true, decide_eq_true_eq] at hpl
    exact hpl.1
  refine codeP_XK E_ok 100 ?_
  (repeat' (first | exact trivial | exact fun _ => rfl | exact rfl | refine And.intro ?_ ?_))
  refine loopP E_ok [4, 8, 22, 32, 274, 275] (fun i : Nat => [(276, .int .i64 i)]) (fun _ _ => H12h h x y pl ++ [some (.roa 1 2 fun k => [.bool (decide (k = 0))])]) (fun i => i ≤ 2) (fun i => 2 - i) 0 (by omega) ?_ ?_
  · refine ent_tau [0, 1, 2, 3, 4, 5, 6] ⟨?_, by (repeat' (first | exact trivial | exact rfl | exact congrArg (SV.int .i64) (Int.natCast_succ _).symm | exact congrArg (SV.int .u64) (Int.natCast_succ _).symm | refine And.intro ?_ ?_)), rfl⟩
    (repeat' (first | exact trivial | exact rfl | exact fun _ _ => rfl | exact fun _ _ _ _ => rfl | exact Or.inl rfl | exact Or.inr rfl | refine And.intro ?_ ?_))
    intro k hk
    match k, hk with
    | 0, _ => rfl
    | 1, _ => rfl
  rintro i hi
  refine And.intro ?_ (And.intro (fun hlt => ?_) (fun hlt => ?_))
  · (repeat' (first | exact trivial | exact fun _ => rfl | exact rfl | refine And.intro ?_ ?_))
  · have hlt' : i < 2 := by
      have := of_decide_eq_true hlt
      omega
    obtain ⟨b, eb⟩ : ∃ b : Bool, decide (0 + ((i : Nat) : Int).toNat = 0) = b := ⟨_, rfl⟩
    have c1 := t26 h hv b
    have c2 := t26 x xv b
    have c3 := t40 h pl (by omega) b
    have c4 := t40 x pl (by omega) b
    rw [← eb] at c1 c2 c3 c4
    have f1 := L.few hv b
    have f2 := L.rightB hv (s := b) hpl
    rw [← eb] at f1 f2
    obtain ⟨r1, e1⟩ : ∃ r, rightB h (decide (0 + ((i : Nat) : Int).toNat = 0)) pl = r := ⟨_, rfl⟩
    obtain ⟨r2, e2⟩ : ∃ r, rightB x (decide (0 + ((i : Nat) : Int).toNat = 0)) pl = r := ⟨_, rfl⟩
    obtain ⟨n1, e3⟩ : ∃ r, h.few (decide (0 + ((i : Nat) : Int).toNat = 0)) = r := ⟨_, rfl⟩
    obtain ⟨n2, e4⟩ : ∃ r, x.few (decide (0 + ((i : Nat) : Int).toNat = 0)) = r := ⟨_, rfl⟩
    rw [e1] at c3 f2
    rw [e2] at c4 f2
    rw [e3] at c1 f1
    rw [e4] at c2 f1
    have f1' : ¬ ((n2 : Nat) : Int) > (n1 : Nat) := by omega
    clear e1 e2 e3 e4 eb
    (repeat' (first | exact trivial | exact fun _ => rfl | exact rfl | refine And.intro ?_ ?_))
    · exact u0 (by omega)
    · exact u0 (by omega)
    · exact u0 (by omega)
    refine c1.use [0] ?_ (by (repeat' (first | exact trivial | exact rfl | exact fun _ _ => rfl | exact fun _ _ _ _ => rfl | exact Or.inl rfl | exact Or.inr rfl | refine And.intro ?_ ?_))) rfl
    (repeat' (first | exact trivial | exact fun _ => rfl | exact rfl | refine And.intro ?_ ?_))
    refine c2.use [4] ?_ (by (repeat' (first | exact trivial | exact rfl | exact fun _ _ => rfl | exact fun _ _ _ _ => rfl | exact Or.inl rfl | exact Or.inr rfl | refine And.intro ?_ ?_))) rfl
    all_goals (repeat' (first | exact trivial | exact fun _ => rfl | exact rfl | refine And.intro ?_ ?_))
    all_goals first | exact True.intro | omega | exact u1 (lt64 (by omega)) | exact u0 (lt64 (by omega)) | (show under _ _; simp [under, gB, wB]; done) | (show under _ _; simp [under, gB, wB]; omega) | skip
    all_goals intro g1
    all_goals first | (exfalso; revert g1; simp [gB, wB, f1']; done) | skip
    refine c3.use [0, 5] ?_ (by (repeat' (first | exact trivial | exact rfl | exact fun _ _ => rfl | exact fun _ _ _ _ => rfl | exact Or.inl rfl | exact Or.inr rfl | refine And.intro ?_ ?_))) rfl
    cases r1 with
    | false =>
      all_goals (repeat' (first | exact trivial | exact fun _ => rfl | exact rfl | refine And.intro ?_ ?_))
      all_goals first | exact True.intro | omega | exact u1 (lt64 (by omega)) | exact u0 (lt64 (by omega)) | (show under _ _; simp [under, gB, wB]; done) | (show under _ _; simp [under, gB, wB]; omega) | skip
      all_goals intro g2
      all_goals first | (exfalso; revert g2; simp [gB, wB, f1']; done) | skip
      all_goals (repeat' (first | exact trivial | exact fun _ => rfl | exact rfl | refine And.intro ?_ ?_))
      all_goals first | exact True.intro | omega | exact u1 (lt64 (by omega)) | exact u0 (lt64 (by omega)) | (show under _ _; simp [under, gB, wB]; done) | (show under _ _; simp [under, gB, wB]; omega) | skip
      all_goals intro g3
      all_goals first | (exfalso; revert g3; simp [gB, wB, f1']; done) | skip
      (repeat' (first | exact trivial | exact fun _ => rfl | exact rfl | refine And.intro ?_ ?_))
      all_goals first | exact True.intro | omega | exact u1 (lt64 (by omega)) | exact u0 (lt64 (by omega)) | (show under _ _; simp [under, gB, wB]; done) | (show under _ _; simp [under, gB, wB]; omega) | skip
      refine ⟨i + 1, by omega, by omega, ?_⟩
      exact ent_tau [0, 1, 2, 3, 4, 5, 6] ⟨by (repeat' (first | exact trivial | exact rfl | exact fun _ _ => rfl | exact fun _ _ _ _ => rfl | exact Or.inl rfl | exact Or.inr rfl | refine And.intro ?_ ?_)), by (repeat' (first | exact trivial | exact rfl | exact congrArg (SV.int .i64) (Int.natCast_succ _).symm | exact congrArg (SV.int .u64) (Int.natCast_succ _).symm | refine And.intro ?_ ?_)), rfl⟩
    | true =>
      have f3 := f2 rfl
      subst f3
      all_goals (repeat' (first | exact trivial | exact fun _ => rfl | exact rfl | refine And.intro ?_ ?_))
      all_goals first | exact True.intro | omega | exact u1 (lt64 (by omega)) | exact u0 (lt64 (by omega)) | (show under _ _; simp [under, gB, wB]; done) | (show under _ _; simp [under, gB, wB]; omega) | skip
      all_goals intro g2
      all_goals first | (exfalso; revert g2; simp [gB, wB, f1']; done) | skip
      refine c4.use [4, 5] ?_ (by (repeat' (first | exact trivial | exact rfl | exact fun _ _ => rfl | exact fun _ _ _ _ => rfl | exact Or.inl rfl | exact Or.inr rfl | refine And.intro ?_ ?_))) rfl
      all_goals (repeat' (first | exact trivial | exact fun _ => rfl | exact rfl | refine And.intro ?_ ?_))
      all_goals first | exact True.intro | omega | exact u1 (lt64 (by omega)) | exact u0 (lt64 (by omega)) | (show under _ _; simp [under, gB, wB]; done) | (show under _ _; simp [under, gB, wB]; omega) | skip
      all_goals intro g3
      all_goals first | (exfalso; revert g3; simp [gB, wB, f1']; done) | skip
      (repeat' (first | exact trivial | exact fun _ => rfl | exact rfl | refine And.intro ?_ ?_))
      all_goals first | exact True.intro | omega | exact u1 (lt64 (by omega)) | exact u0 (lt64 (by omega)) | (show under _ _; simp [under, gB, wB]; done) | (show under _ _; simp [under, gB, wB]; omega) | skip
      refine ⟨i + 1, by omega, by omega, ?_⟩
      exact ent_tau [0, 1, 2, 3, 4, 5, 6] ⟨by (repeat' (first | exact trivial | exact rfl | exact fun _ _ => rfl | exact fun _ _ _ _ => rfl | exact Or.inl rfl | exact Or.inr rfl | refine And.intro ?_ ?_)), by (repeat' (first | exact trivial | exact rfl | exact congrArg (SV.int .i64) (Int.natCast_succ _).symm | exact congrArg (SV.int .u64) (Int.natCast_succ _).symm | refine And.intro ?_ ?_)), rfl⟩
  · have e : i = 2 := by
      have := of_decide_eq_false hlt
      omega
    subst e
    (repeat' (first | exact trivial | exact fun _ => rfl | exact rfl | refine And.intro ?_ ?_))
    refine t15.use [] ?_ trivial rfl
    (repeat' (first | exact trivial | exact fun _ => rfl | exact rfl | refine And.intro ?_ ?_))
    exact ent_tau [0, 1] ⟨by (repeat' (first | exact trivial | exact rfl | exact fun _ _ => rfl | exact fun _ _ _ _ => rfl | exact Or.inl rfl | exact Or.inr rfl | refine And.intro ?_ ?_)), by (repeat' (first | exact trivial | exact rfl | exact congrArg (SV.int .i64) (Int.natCast_succ _).symm | exact congrArg (SV.int .u64) (Int.natCast_succ _).symm | refine And.intro ?_ ?_)), rfl⟩
end Go.Proofs.Ytgofhjihkinknaa
/-
  HorseMore: how late moves begin.
-/
namespace Go.Proofs.Ytgofhjihkinknaa
open Go Go.Sy Kuhn
set_option linter.unusedSimpArgs false
set_option maxRecDepth 100000
set_option maxHeartbeats 4000000
attribute [local irreducible] CallP CodeP Ent YieldP
set_option maxHeartbeats 40000000
attribute [local irreducible] HD.ch maskO

def H12g (h x : HD) (y pl : PD) : SHeap := H12h h x y pl ++ [some (.roa 2 h.n (latF h pl)), some (.roa 2 x.n (latF x pl))]
noncomputable def T12g (h x : HD) (pl : PD) : Tm := mkT [] [(4, .ptr 2 0), (8, .bool false), (22, .ptr 3 0), (32, .osl pl.b 5 1 pl.n pl.cap), (33, .slice 6 2 0 h.n h.n), (35, .slice 7 2 0 x.n x.n)] 0 (List.replicate 320 none)
theorem seg12g (h x : HD) (hv : h.Valid) (L : Less x h) (y pl : PD) (hpl : pok h pl = true) :
    CodeP Try.prog none 2 (sufC Try.f12 20) ⟨T12g h x pl, H12g h x y pl, []⟩ (KRet E Try.f12 2 (.bool true) (H12 h y)) := by
  have hn := hv.2.1
  have xv := L.valid hv
  have xn := L.n
  have hpn : pl.n = h.n := by
    unfold pok at hpl
    simp only [Bool.and_eq_true, decide_eq_true_eq] at hpl
    exact hpl.1
  have seg := seg12h h x hv L y pl hpl
  refine codeP_XK E_ok 1 ?_
  (repeat' (first | exact trivial | exact fun _ => rfl | exact rfl | refine And.intro ?_ ?_))
  refine loopP E_ok [4, 8, 22, 32, 33, 35, 245] (fun i : Nat => [(246, .int .i64 i)]) (fun _ _ => H12g h x y pl) (fun i => i ≤ h.n) (fun i => h.n - i) 0 (Nat.zero_le _) ?_ ?_
  · exact ent_tau [0, 1, 2, 3, 4, 5, 6, 7] ⟨by (repeat' (first | exact trivial | exact rfl | exact fun _ _ => rfl | exact fun _ _ _ _ => rfl | exact Or.inl rfl | exact Or.inr rfl | refine And.intro ?_ ?_)), by (repeat' (first | exact trivial | exact rfl | exact congrArg (SV.int .i64) (Int.natCast_succ _).symm | exact congrArg (SV.int .u64) (Int.natCast_succ _).symm | refine And.intro ?_ ?_)), rfl⟩
  rintro i hi
  refine And.intro ?_ (And.intro (fun hlt => ?_) (fun hlt => ?_))
  · (repeat' (first | exact trivial | exact fun _ => rfl | exact rfl | refine And.intro ?_ ?_))
  · have hlt' : i < h.n := by
      have := of_decide_eq_true hlt
      omega
    have ei := z1 i
    have b1 := L.beg hv pl false hlt'
    have b2 := L.beg hv pl true hlt'
    have d1 : decide (T59 x pl false i - x.at' i > T59 h pl false i - h.at' i) = false := decide_eq_false (by rw [L.at']; omega)
    have d2 : decide (T59 x pl true i - x.at' i > T59 h pl true i - h.at' i) = false := decide_eq_false (by rw [L.at']; omega)
    (repeat' (first | exact trivial | exact fun _ => rfl | exact rfl | refine And.intro ?_ ?_))
    refine drawP E_ok [] pl12_35 (by kernel_rfl) ?_
    (repeat' (first | exact trivial | exact fun _ => rfl | exact rfl | refine And.intro ?_ ?_))
    all_goals first | (first | omega | exact u0 (by omega) | exact u1 (by omega) | exact u1 ⟨by omega, by omega⟩ | exact un (by omega) | exact fun hh => hh | exact fun hh => absurd hh (by decide) | exact fun hh => congrArg not hh | exact fun hh => Bool.noConfusion (show true = false from hh) | exact fun hh => Bool.noConfusion (show false = true from hh)) | skip
    all_goals first | (show under none _; exact u0 (by omega)) | skip
    · intro hx
      exfalso
      revert hx
      rw [ei, d1, d2]
      simp [gB, wB]
    intro hx
    clear hx
    (repeat' (first | exact trivial | exact fun _ => rfl | exact rfl | refine And.intro ?_ ?_))
    all_goals first | exact True.intro | omega | exact u1 (lt64 (by omega)) | exact u0 (lt64 (by omega)) | (show under _ _; simp [under, gB, wB]; done) | (show under _ _; simp [under, gB, wB]; omega) | skip
    refine ⟨i + 1, hlt', by omega, ?_⟩
    exact ent_tau [0, 1, 2, 3, 4, 5, 6, 7] ⟨by (repeat' (first | exact trivial | exact rfl | exact fun _ _ => rfl | exact fun _ _ _ _ => rfl | exact Or.inl rfl | exact Or.inr rfl | refine And.intro ?_ ?_)), by (repeat' (first | exact trivial | exact rfl | exact congrArg (SV.int .i64) (Int.natCast_succ _).symm | exact congrArg (SV.int .u64) (Int.natCast_succ _).symm | refine And.intro ?_ ?_)), rfl⟩
  · have e : i = h.n := by
      have := of_decide_eq_false hlt
      omega
    subst e
    (repeat' (first | exact trivial | exact fun _ => rfl | exact rfl | refine And.intro ?_ ?_))
    refine CodeP.part seg ?_
    exact ent_tau [0, 1, 2, 3, 4, 5] ⟨by (repeat' (first | exact trivial | exact rfl | exact fun _ _ => rfl | exact fun _ _ _ _ => rfl | exact Or.inl rfl | exact Or.inr rfl | refine And.intro ?_ ?_)), by (repeat' (first | exact trivial | exact rfl | exact congrArg (SV.int .i64) (Int.natCast_succ _).symm | exact congrArg (SV.int .u64) (Int.natCast_succ _).symm | refine And.intro ?_ ?_)), rfl⟩
noncomputable def T12f (pl : PD) : Tm := mkT [] [(4, .ptr 2 0), (8, .bool false), (22, .ptr 3 0), (32, .osl pl.b 5 1 pl.n pl.cap)] 0 (List.replicate 320 none)
theorem seg12f (h x : HD) (hv : h.Valid) (L : Less x h) (y pl : PD) (hpl : pok h pl = true) :
    CodeP Try.prog none 2 (sufC Try.f12 17) ⟨T12f pl, H12h h x y pl, []⟩ (KRet E Try.f12 2 (.bool true) (H12 h y)) := by
  have hn := hv.2.1
  have xv := L.valid hv
  have xn := L.n
  have hpn : pl.n = h.n := by
    unfold pok at hpl
    simp only [Bool.and_eq_true, decide_eq_true_eq] at hpl
    exact hpl.1
  have seg := seg12g h x hv L y pl hpl
  have c1 := t20 h pl (by omega) _ _ (.inl ⟨hv, hpl, rfl, rfl⟩)
  have c2 := t20 x pl (by omega) _ _ (.inl ⟨xv, by rw [L.pok]; exact hpl, rfl, rfl⟩)
  refine codeP_XK E_ok 3 ?_
  (repeat' (first | exact trivial | exact fun _ => rfl | exact rfl | refine And.intro ?_ ?_))
  refine c1.use [0, 5] ?_ (by (repeat' (first | exact trivial | exact rfl | exact fun _ _ => rfl | exact fun _ _ _ _ => rfl | exact Or.inl rfl | exact Or.inr rfl | refine And.intro ?_ ?_))) rfl
  (repeat' (first | exact trivial | exact fun _ => rfl | exact rfl | refine And.intro ?_ ?_))
  refine c2.use [4, 5] ?_ (by (repeat' (first | exact trivial | exact rfl | exact fun _ _ => rfl | exact fun _ _ _ _ => rfl | exact Or.inl rfl | exact Or.inr rfl | refine And.intro ?_ ?_))) rfl
  all_goals (repeat' (first | exact trivial | exact fun _ => rfl | exact rfl | refine And.intro ?_ ?_))
  all_goals first | exact True.intro | omega | exact u1 (lt64 (by omega)) | exact u0 (lt64 (by omega)) | (show under _ _; simp [under, gB, wB]; done) | (show under _ _; simp [under, gB, wB]; omega) | skip
  all_goals intro g1
  all_goals first | (exfalso; revert g1; simp [gB, wB, hpn, xn]; done) | skip
  (repeat' (first | exact trivial | exact fun _ => rfl | exact rfl | refine And.intro ?_ ?_))
  refine CodeP.part seg ?_
  exact ent_tau [0, 1, 2, 3, 4, 5, 6, 7] ⟨by (repeat' (first | exact trivial | exact rfl | exact fun _ _ => rfl | exact fun _ _ _ _ => rfl | exact Or.inl rfl | exact Or.inr rfl | refine And.intro ?_ ?_)), by (repeat' (first | exact trivial | exact rfl | exact congrArg (SV.int .i64) (Int.natCast_succ _).symm | exact congrArg (SV.int .u64) (Int.natCast_succ _).symm | refine And.intro ?_ ?_)), rfl⟩
def H12e (h x : HD) (y : PD) : SHeap := HD.H h ++ [some (.roa 1 y.n (BDF y)), some (.roc (bc h)), some (.roc (bx x)), some (.roa 4 x.n (HD.F x))]
noncomputable def T12e (y : PD) : Tm := mkT [] [(1, .osl y.b 1 1 y.n y.cap), (4, .ptr 2 0), (8, .bool false), (22, .ptr 3 0)] 0 (List.replicate 320 none)
theorem seg12e (h x : HD) (hv : h.Valid) (L : Less x h) (y : PD) (hy : BOk y) (hyn : y.n ≤ 9223372036854775807) :
    CodeP Try.prog none 2 (sufC Try.f12 16) ⟨T12e y, H12e h x y, []⟩ (KRet E Try.f12 2 (.bool true) (H12 h y)) := by
  refine codeP_XK E_ok 1 ?_
  (repeat' (first | exact trivial | exact fun _ => rfl | exact rfl | refine And.intro ?_ ?_))
  refine CallP.frameH (t34 h hv y hy hyn) [0, 1] (by (repeat' (first | exact trivial | exact rfl | exact fun _ _ => rfl | exact fun _ _ _ _ => rfl | exact Or.inl rfl | exact Or.inr rfl | refine And.intro ?_ ?_))) rfl ?_
  rintro ce h' (⟨h0, rfl, rfl⟩ | ⟨k, cap, h0, hc1, hc2, rfl, rfl⟩)
  · refine ⟨rfl, ?_⟩
    (repeat' (first | exact trivial | exact fun _ => rfl | exact rfl | refine And.intro ?_ ?_))
    refine CodeP.part (seg12f h x hv L y (mkD y 0 false 0) (pok_mk hy h0.symm false 0)) ?_
    refine entPlan0 (T := mkT [] [(4, .ptr 2 0), (8, .bool false), (22, .ptr 3 0), (32, .snil)] 0 (List.replicate 320 none)) (H := H12e h x y) ?_ ?_ (i := 0) rfl
    · exact ent_tau [0, 1, 2, 3, 4] ⟨by (repeat' (first | exact trivial | exact rfl | exact fun _ _ => rfl | exact fun _ _ _ _ => rfl | exact Or.inl rfl | exact Or.inr rfl | refine And.intro ?_ ?_)), by (repeat' (first | exact trivial | exact rfl | exact congrArg (SV.int .i64) (Int.natCast_succ _).symm | exact congrArg (SV.int .u64) (Int.natCast_succ _).symm | refine And.intro ?_ ?_)), rfl⟩
    · (repeat' (first | exact trivial | exact rfl | exact fun η => rfl | exact fun η => by simp [den, mkD] | refine And.intro ?_ ?_))
  · refine ⟨rfl, ?_⟩
    (repeat' (first | exact trivial | exact fun _ => rfl | exact rfl | refine And.intro ?_ ?_))
    refine CodeP.part (seg12f h x hv L y (mkD y (k + 1) true cap) (pok_mk hy h0.symm true cap)) ?_
    refine entTmR (T := mkT [] [(4, .ptr 2 0), (8, .bool false), (22, .ptr 3 0), (32, .slice 5 1 0 (k + 1) cap)] 0 (List.replicate 320 none)) ?_ ?_
    · exact ent_tau [0, 1, 2, 3, 4, 5] ⟨by (repeat' (first | exact trivial | exact rfl | exact fun _ _ => rfl | exact fun _ _ _ _ => rfl | exact Or.inl rfl | exact Or.inr rfl | refine And.intro ?_ ?_)), by (repeat' (first | exact trivial | exact rfl | exact congrArg (SV.int .i64) (Int.natCast_succ _).symm | exact congrArg (SV.int .u64) (Int.natCast_succ _).symm | refine And.intro ?_ ?_)), rfl⟩
    · (repeat' (first | exact trivial | exact rfl | exact fun η => rfl | exact fun η => by simp [den, mkD] | refine And.intro ?_ ?_))
end Go.Proofs.Ytgofhjihkinknaa
/-
  HorseMore: a shorter move, or a quicker pace.
-/
namespace Go.Proofs.Ytgofhjihkinknaa
open Go Go.Sy Kuhn
set_option linter.unusedSimpArgs false
set_option maxRecDepth 100000
set_option maxHeartbeats 4000000
attribute [local irreducible] CallP CodeP Ent YieldP
set_option maxHeartbeats 40000000
attribute [local irreducible] HD.ch maskO

def pl12_21s : Plan := .eager 0 <| .eager 1 <| .eager 2 <| .eager 3 <| .eager 4 <| .eager 8 <| .eager 9 <| .eager 10 <| .eager 11 <| .alt 5 (.eager 6 <| .eager 7 <| .alt 12 (.eager 13 <| .eager 14 <| .alt 15 (.eager 16 <| .eager 17 <| .alt 18 (.done) .no) .no) .no) (.alt 12 (.eager 13 <| .eager 14 <| .alt 5 (.eager 6 <| .eager 7 <| .alt 15 (.eager 16 <| .eager 17 <| .alt 18 (.done) .no) .no) .no) .no)
/-- The greater one. -/
def mx (c a : Int) : Int := if a > c then a else c
/-- One move is shorter. -/
def leA (h : HD) (m : Nat) (cap : Nat) : HD := ⟨h.pace, h.n, h.at', h.pl, fun i => if i = m then mx 1 (h.lo i - 1) else h.lo i, fun i => if i = m then mx 1 (h.hi i - 1) else h.hi i, true, cap⟩
/-- A quicker pace. -/
def leB (h : HD) (cap : Nat) : HD := ⟨mx 0 (h.pace - 1), h.n, h.at', h.pl, h.lo, h.hi, true, cap⟩
theorem leA_less {h : HD} (hv : h.Valid) (m cap : Nat) : Less (leA h m cap) h where
  n := rfl
  at' := rfl
  pl := rfl
  pace := ⟨hv.1.1, Int.le_refl _⟩
  mv := fun i hi => by
    have k := hv.2.2 i hi
    unfold HD.okMv at k
    by_cases c : i = m
    · simp only [leA, mx, if_pos c]
      split <;> split <;> omega
    · simp only [leA, if_neg c]
      omega
theorem leB_less {h : HD} (hv : h.Valid) (cap : Nat) : Less (leB h cap) h where
  n := rfl
  at' := rfl
  pl := rfl
  pace := by
    have := hv.1
    simp only [leB, mx]
    split <;> omega
  mv := fun i hi => by
    have k := hv.2.2 i hi
    unfold HD.okMv at k
    simp only [leB]
    omega
theorem leA_row (h : HD) (m cap k : Nat) : selL (decide (k = m)) (splice (HD.F h m) (0 + 1 + 1) [.int .i64 (if h.lo m - 1 > 1 then h.lo m - 1 else 1), .int .i64 (if h.hi m - 1 > 1 then h.hi m - 1 else 1)]) (HD.F h k) = HD.F (leA h m cap) k := by
  by_cases c : k = m
  · subst c
    rw [decide_eq_true rfl, selL_true]
    unfold HD.F leA mx
    simp only [if_pos rfl]
    rfl
  · rw [decide_eq_false c, selL_false]
    unfold HD.F leA
    simp only [if_neg c]
def bk (x : HD) : List SV := [.int .i64 x.pace, .osl x.b 6 4 x.n x.cap]
def by5 (x : HD) : List SV := [.int .i64 x.pace, .osl x.b 5 4 x.n x.cap]
noncomputable def T12d (h : HD) (y : PD) : Tm := mkT [] [(1, .osl y.b 1 1 y.n y.cap), (4, .ptr 2 0), (8, .bool false), (10, .int .i64 (h.few true : Nat)), (21, .ptr 3 0), (22, .ptr 4 0)] 0 (List.replicate 320 none)
theorem seg12d (h x : HD) (hv : h.Valid) (L : Less x h) (kb : Bool) (kc : Nat) (y : PD) (hy : BOk y) (hyn : y.n ≤ 9223372036854775807) :
    CodeP Try.prog none 2 (sufC Try.f12 13) ⟨T12d h y, HD.H h ++ [some (.roa 1 y.n (BDF y)), some (.roc (bc h)), some (.roc (bk (knD h kb kc))), some (.roc (by5 x)), some (.roa 4 x.n (HD.F x)), some (.roa 4 h.n (HD.F (knD h kb kc)))], []⟩ (KRet E Try.f12 2 (.bool true) (H12 h y)) := by
  have seg := seg12e h x hv L y hy hyn
  have c1 := t26 (knD h kb kc) (kn_valid hv kb kc) true
  have c2 := t26 (knD h kb kc) (kn_valid hv kb kc) false
  rw [kn_few hv] at c1 c2
  obtain ⟨f, ef⟩ : ∃ f, h.few true = f := ⟨_, rfl⟩
  unfold T12d
  rw [ef] at c1 c2 ⊢
  refine codeP_XK E_ok 3 ?_
  (repeat' (first | exact trivial | exact fun _ => rfl | exact rfl | refine And.intro ?_ ?_))
  refine c1.use [6] ?_ (by (repeat' (first | exact trivial | exact rfl | exact fun _ _ => rfl | exact fun _ _ _ _ => rfl | exact Or.inl rfl | exact Or.inr rfl | refine And.intro ?_ ?_))) rfl
  (repeat' (first | exact trivial | exact fun _ => rfl | exact rfl | refine And.intro ?_ ?_))
  refine c2.use [6] ?_ (by (repeat' (first | exact trivial | exact rfl | exact fun _ _ => rfl | exact fun _ _ _ _ => rfl | exact Or.inl rfl | exact Or.inr rfl | refine And.intro ?_ ?_))) rfl
  all_goals (repeat' (first | exact trivial | exact fun _ => rfl | exact rfl | refine And.intro ?_ ?_))
  all_goals first | exact True.intro | omega | exact u1 (lt64 (by omega)) | exact u0 (lt64 (by omega)) | (show under _ _; simp [under, gB, wB]; done) | (show under _ _; simp [under, gB, wB]; omega) | skip
  all_goals intro g1
  all_goals first | (exfalso; revert g1; simp [gB, wB]; done) | skip
  (repeat' (first | exact trivial | exact fun _ => rfl | exact rfl | refine And.intro ?_ ?_))
  refine CodeP.part seg ?_
  exact ent_tau [0, 1, 2, 4, 5] ⟨by (repeat' (first | exact trivial | exact rfl | exact fun _ _ => rfl | exact fun _ _ _ _ => rfl | exact Or.inl rfl | exact Or.inr rfl | refine And.intro ?_ ?_)), by (repeat' (first | exact trivial | exact rfl | exact congrArg (SV.int .i64) (Int.natCast_succ _).symm | exact congrArg (SV.int .u64) (Int.natCast_succ _).symm | refine And.intro ?_ ?_)), rfl⟩
theorem seg12d' (h x : HD) (hv : h.Valid) (L : Less x h) (hb : x.b = true) (kb : Bool) (kc : Nat) (y : PD) (hy : BOk y) (hyn : y.n ≤ 9223372036854775807) :
    CodeP Try.prog none 2 (sufC Try.f12 13) ⟨T12d h y, HD.H h ++ [some (.roa 1 y.n (BDF y)), some (.roc (bc h)), some (.roc (bk (knD h kb kc))), some (.cells [.int .i64 x.pace, .slice 5 4 0 x.n x.cap]), some (.roa 4 x.n (HD.F x)), some (.roa 4 h.n (HD.F (knD h kb kc)))], []⟩ (KRet E Try.f12 2 (.bool true) (H12 h y)) := by
  refine CodeP.pre (entCells (i := 4) (cs' := by5 x) rfl (fun η => by simp [denL, den, by5, hb])) (CodeP.pre ?_ (seg12d h x hv L kb kc y hy hyn))
  exact ent_tau [0, 1, 2, 3, 4, 5, 6] ⟨by (repeat' (first | exact trivial | exact rfl | exact fun _ _ => rfl | exact fun _ _ _ _ => rfl | exact Or.inl rfl | exact Or.inr rfl | refine And.intro ?_ ?_)), by (repeat' (first | exact trivial | exact rfl | exact congrArg (SV.int .i64) (Int.natCast_succ _).symm | exact congrArg (SV.int .u64) (Int.natCast_succ _).symm | refine And.intro ?_ ?_)), rfl⟩
noncomputable def T12c (h : HD) (y : PD) (w nb : Int) : Tm := mkT [] [(1, .osl y.b 1 1 y.n y.cap), (2, .int .u8 w), (3, .int .u8 nb), (4, .ptr 2 0), (8, .bool false), (10, .int .i64 (h.few true : Nat)), (21, .ptr 3 0), (22, .ptr 4 0)] 0 (List.replicate 320 none)
theorem seg12c (h : HD) (hv : h.Valid) (cap : Nat) (kb : Bool) (kc : Nat) (y : PD) (hy : BOk y) (hyn : y.n ≤ 9223372036854775807) (w nb : Int) (hw : 0 ≤ w ∧ w ≤ 255) (hnb : 0 ≤ nb ∧ nb ≤ 255) :
    CodeP Try.prog none 2 (sufC Try.f12 12) ⟨T12c h y w nb, HD.H h ++ [some (.roa 1 y.n (BDF y)), some (.roc (bc h)), some (.roc (bk (knD h kb kc))), some (.cells [.int .i64 h.pace, .slice 5 4 0 h.n cap]), some (.arr 4 h.n cap (HD.F h)), some (.roa 4 h.n (HD.F (knD h kb kc)))], []⟩ (KRet E Try.f12 2 (.bool true) (H12 h y)) := by
  have hn := hv.2.1
  have pv := hv.1
  refine codeP_XK E_ok 1 ?_
  (repeat' (first | exact trivial | exact fun _ => rfl | exact rfl | refine And.intro ?_ ?_))
  all_goals first | exact True.intro | omega | exact u1 (lt64 (by omega)) | exact u0 (lt64 (by omega)) | (show under _ _; simp [under, gB, wB]; done) | (show under _ _; simp [under, gB, wB]; omega) | skip
  · intro hx
    (repeat' (first | exact trivial | exact fun _ => rfl | exact rfl | refine And.intro ?_ ?_))
    refine drawP E_ok [4] pl12_20 (by kernel_rfl) ?_
    have h0 : 0 < h.n := by
      have hx2 : gB none (wB true (bif decide (((h.n : Nat) : Int) > 0) then decide (nb.tmod 2 = 0) else false)) = true := hx
      by_cases c : ((h.n : Nat) : Int) > 0
      · omega
      · rw [decide_eq_false c] at hx2
        simp [gB, wB] at hx2
    have hm0 : 0 ≤ w.tmod (h.n : Nat) ∧ w.tmod (h.n : Nat) < (h.n : Nat) := ⟨Int.tmod_nonneg _ hw.1, Int.tmod_lt_of_pos _ (by omega)⟩
    (repeat' (first | exact trivial | exact fun _ => rfl | exact rfl | refine And.intro ?_ ?_))
    all_goals first | exact u0 (by omega) | omega | skip
    have hh := hv.2.2 (0 + (w.tmod (h.n : Nat)).toNat) (by omega)
    unfold HD.okMv at hh
    refine drawP E_ok [] pl12_21s (by kernel_rfl) ?_
    (repeat' (first | exact trivial | exact fun _ => rfl | exact rfl | refine And.intro ?_ ?_))
    all_goals first | exact u0 (by omega) | (show (_ : Int) ≤ _; omega) | skip
    all_goals refine (t38 _ _).use [] ?_ trivial rfl
    all_goals (repeat' (first | exact trivial | exact fun _ => rfl | exact rfl | refine And.intro ?_ ?_))
    all_goals first | exact u0 (by omega) | omega | skip
    all_goals refine CodeP.part (seg12d' h (leA h (0 + (w.tmod (h.n : Nat)).toNat) cap) hv (leA_less hv _ cap) rfl kb kc y hy hyn) ?_
    all_goals refine ent_tau [0, 1, 2, 3, 4, 5, 6] ⟨?_, by (repeat' (first | exact trivial | exact rfl | exact congrArg (SV.int .i64) (Int.natCast_succ _).symm | exact congrArg (SV.int .u64) (Int.natCast_succ _).symm | refine And.intro ?_ ?_)), rfl⟩
    all_goals (repeat' (first | exact trivial | exact rfl | exact fun _ _ => rfl | exact fun _ _ _ _ => rfl | exact Or.inl rfl | exact Or.inr rfl | refine And.intro ?_ ?_))
    all_goals exact fun k _ => leA_row h _ cap k
  · intro hx
    clear hx
    (repeat' (first | exact trivial | exact fun _ => rfl | exact rfl | refine And.intro ?_ ?_))
    · omega
    · omega
    refine CodeP.part (seg12d' h (leB h cap) hv (leB_less hv cap) rfl kb kc y hy hyn) ?_
    exact ent_tau [0, 1, 2, 3, 4, 5, 6] ⟨by (repeat' (first | exact trivial | exact rfl | exact fun _ _ => rfl | exact fun _ _ _ _ => rfl | exact Or.inl rfl | exact Or.inr rfl | refine And.intro ?_ ?_)), by (repeat' (first | exact trivial | exact rfl | exact congrArg (SV.int .i64) (Int.natCast_succ _).symm | exact congrArg (SV.int .u64) (Int.natCast_succ _).symm | refine And.intro ?_ ?_)), rfl⟩
end Go.Proofs.Ytgofhjihkinknaa
/-
  HorseMore: moves of which it is known how long they take.
-/
namespace Go.Proofs.Ytgofhjihkinknaa
open Go Go.Sy Kuhn
set_option linter.unusedSimpArgs false
set_option maxRecDepth 100000
set_option maxHeartbeats 4000000
attribute [local irreducible] CallP CodeP Ent YieldP
set_option maxHeartbeats 40000000
attribute [local irreducible] HD.ch maskO

theorem seg12c1 (h : HD) (hv : h.Valid) (cap : Nat) (kc : Nat) (y : PD) (hy : BOk y) (hyn : y.n ≤ 9223372036854775807) (w nb : Int) (hw : 0 ≤ w ∧ w ≤ 255) (hnb : 0 ≤ nb ∧ nb ≤ 255) (N : Nat) (hN : h.n = N) :
    CodeP Try.prog none 2 (sufC Try.f12 12) ⟨T12c h y w nb, HD.H h ++ [some (.roa 1 y.n (BDF y)), some (.roc (bc h)), some (.cells [.int .i64 h.pace, .slice 6 4 0 N kc]), some (.cells [.int .i64 h.pace, .slice 5 4 0 h.n cap]), some (.arr 4 h.n cap (HD.F h)), some (.roa 4 N (HD.F (knD h true 0)))], []⟩ (KRet E Try.f12 2 (.bool true) (H12 h y)) := by
  subst hN
  refine CodeP.pre (entCells (i := 3) (cs' := bk (knD h true kc)) rfl (fun η => by simp [denL, den, bk, knD])) (CodeP.pre ?_ (seg12c h hv cap true kc y hy hyn w nb hw hnb))
  exact ent_tau [0, 1, 2, 3, 4, 5, 6] ⟨by (repeat' (first | exact trivial | exact rfl | exact fun _ _ => rfl | exact fun _ _ _ _ => rfl | exact Or.inl rfl | exact Or.inr rfl | refine And.intro ?_ ?_)), by (repeat' (first | exact trivial | exact rfl | exact congrArg (SV.int .i64) (Int.natCast_succ _).symm | exact congrArg (SV.int .u64) (Int.natCast_succ _).symm | refine And.intro ?_ ?_)), rfl⟩
theorem seg12c0 (h : HD) (hv : h.Valid) (cap : Nat) (y : PD) (hy : BOk y) (hyn : y.n ≤ 9223372036854775807) (w nb : Int) (hw : 0 ≤ w ∧ w ≤ 255) (hnb : 0 ≤ nb ∧ nb ≤ 255) (h0 : h.n = 0) :
    CodeP Try.prog none 2 (sufC Try.f12 12) ⟨T12c h y w nb, HD.H h ++ [some (.roa 1 y.n (BDF y)), some (.roc (bc h)), some (.cells [.int .i64 h.pace, .snil]), some (.cells [.int .i64 h.pace, .slice 5 4 0 h.n cap]), some (.arr 4 h.n cap (HD.F h))], []⟩ (KRet E Try.f12 2 (.bool true) (H12 h y)) := by
  refine CodeP.pre (entCells (i := 3) (cs' := bk (knD h false 0)) rfl (fun η => by simp [denL, den, bk, knD, h0])) (CodeP.pre ((entAlias (i := 0) rfl 4 (HD.F (knD h false 0))).trans ?_) (seg12c h hv cap false 0 y hy hyn w nb hw hnb))
  refine ent_tau [0, 1, 2, 3, 4, 5, 6] ⟨?_, by (repeat' (first | exact trivial | exact rfl | exact congrArg (SV.int .i64) (Int.natCast_succ _).symm | exact congrArg (SV.int .u64) (Int.natCast_succ _).symm | refine And.intro ?_ ?_)), rfl⟩
  (repeat' (first | exact trivial | exact rfl | exact fun _ _ => rfl | exact fun _ _ _ _ => rfl | exact Or.inl rfl | exact Or.inr rfl | refine And.intro ?_ ?_))
  exact h0.symm
theorem app12 (h : HD) (m j : Nat) (hj : j = m + 1) : ∀ q, q < m + 1 + 1 → selL (decide (q < m + 1)) (HD.F (knD h true 0) q) (getOf 4 (splice (repL 1 [SV.int .i64 0, SV.int .i64 0, SV.int .i64 0, SV.int .i64 0]) (0 * 4) [SV.int .i64 (h.at' j), SV.int .i64 (h.pl j), SV.int .i64 (h.hi j), SV.int .i64 (h.hi j)]) (0 + (q - (m + 1)))) = HD.F (knD h true 0) q := by
  intro q hq
  subst hj
  by_cases c : q < m + 1
  · rw [decide_eq_true c, selL_true]
  · have e : q = m + 1 := by omega
    subst e
    rw [decide_eq_false c, selL_false, Nat.sub_self]
    rfl
def H12b (h : HD) (y : PD) (cap : Nat) (cs : List SV) : SHeap := HD.H h ++ [some (.roa 1 y.n (BDF y)), some (.roc (bc h)), some (.cells (.int .i64 h.pace :: cs)), some (.cells [.int .i64 h.pace, .slice 5 4 0 h.n cap]), some (.arr 4 h.n cap (HD.F h))]
theorem seg12b (h : HD) (hv : h.Valid) (cap : Nat) (y : PD) (hy : BOk y) (hyn : y.n ≤ 9223372036854775807) (w nb : Int) (hw : 0 ≤ w ∧ w ≤ 255) (hnb : 0 ≤ nb ∧ nb ≤ 255) :
    CodeP Try.prog none 2 (sufC Try.f12 11) ⟨T12c h y w nb, H12b h y cap [.snil], []⟩ (KRet E Try.f12 2 (.bool true) (H12 h y)) := by
  have hn := hv.2.1
  refine codeP_XK E_ok 1 ?_
  (repeat' (first | exact trivial | exact fun _ => rfl | exact rfl | refine And.intro ?_ ?_))
  refine loopP E_ok [1, 2, 3, 4, 8, 10, 21, 22, 122, 123] (fun g : Nat × Nat => [(124, .int .i64 g.1)])
    (fun g _ => match g.1 with | 0 => H12b h y cap [.snil] | k + 1 => H12b h y cap [.slice 6 4 0 (k + 1) g.2] ++ [some (.arr 4 (k + 1) g.2 (HD.F (knD h true 0)))])
    (fun g => g.1 ≤ h.n ∧ (0 < g.1 → g.1 ≤ g.2 ∧ g.2 ≤ 9223372036854775807)) (fun g => h.n - g.1) (0, 0) ⟨Nat.zero_le _, fun h => absurd h (Nat.lt_irrefl 0)⟩ ?_ ?_
  · exact ent_tau [0, 1, 2, 3, 4, 5] ⟨by (repeat' (first | exact trivial | exact rfl | exact fun _ _ => rfl | exact fun _ _ _ _ => rfl | exact Or.inl rfl | exact Or.inr rfl | refine And.intro ?_ ?_)), by (repeat' (first | exact trivial | exact rfl | exact congrArg (SV.int .i64) (Int.natCast_succ _).symm | exact congrArg (SV.int .u64) (Int.natCast_succ _).symm | refine And.intro ?_ ?_)), rfl⟩
  rintro ⟨i, c2⟩ ⟨hi, hcap⟩
  simp only at hi hcap
  cases i with
  | zero =>
    refine And.intro ?_ (And.intro (fun hlt => ?_) (fun hlt => ?_))
    · (repeat' (first | exact trivial | exact fun _ => rfl | exact rfl | refine And.intro ?_ ?_))
    · have hlt' : 0 < h.n := by
        have := of_decide_eq_true hlt
        omega
      (repeat' (first | exact trivial | exact fun _ => rfl | exact rfl | refine And.intro ?_ ?_))
      all_goals first | (first | omega | exact u0 (by omega) | exact u1 (by omega) | exact u1 ⟨by omega, by omega⟩ | exact un (by omega) | exact fun hh => hh | exact fun hh => absurd hh (by decide) | exact fun hh => congrArg not hh | exact fun hh => Bool.noConfusion (show true = false from hh) | exact fun hh => Bool.noConfusion (show false = true from hh)) | exact u0 (by omega) | decide | skip
      intro c5 h51 h52
      (repeat' (first | exact trivial | exact fun _ => rfl | exact rfl | refine And.intro ?_ ?_))
      all_goals first | (first | omega | exact u0 (by omega) | exact u1 (by omega) | exact u1 ⟨by omega, by omega⟩ | exact un (by omega) | exact fun hh => hh | exact fun hh => absurd hh (by decide) | exact fun hh => congrArg not hh | exact fun hh => Bool.noConfusion (show true = false from hh) | exact fun hh => Bool.noConfusion (show false = true from hh)) | exact u0 (by omega) | skip
      refine ⟨(0 + 1, c5), ⟨hlt', fun _ => ⟨h51, h52⟩⟩, by simp only; omega, ?_⟩
      refine ent_tau [0, 1, 2, 3, 4, 5, 8] ⟨?_, by (repeat' (first | exact trivial | exact rfl | exact congrArg (SV.int .i64) (Int.natCast_succ _).symm | exact congrArg (SV.int .u64) (Int.natCast_succ _).symm | refine And.intro ?_ ?_)), rfl⟩
      (repeat' (first | exact trivial | exact rfl | exact fun _ _ => rfl | exact fun _ _ _ _ => rfl | exact Or.inl rfl | exact Or.inr rfl | refine And.intro ?_ ?_))
      exact fun q hq => by
        have h0 : q = 0 := Nat.lt_one_iff.1 hq
        subst h0
        rfl
    · have e : h.n = 0 := by
        have := of_decide_eq_false hlt
        simp only at this
        omega
      (repeat' (first | exact trivial | exact fun _ => rfl | exact rfl | refine And.intro ?_ ?_))
      refine CodeP.part (seg12c0 h hv cap y hy hyn w nb hw hnb e) ?_
      exact ent_tau [0, 1, 2, 3, 4, 5] ⟨by (repeat' (first | exact trivial | exact rfl | exact fun _ _ => rfl | exact fun _ _ _ _ => rfl | exact Or.inl rfl | exact Or.inr rfl | refine And.intro ?_ ?_)), by (repeat' (first | exact trivial | exact rfl | exact congrArg (SV.int .i64) (Int.natCast_succ _).symm | exact congrArg (SV.int .u64) (Int.natCast_succ _).symm | refine And.intro ?_ ?_)), rfl⟩
  | succ m =>
    obtain ⟨hc1, hc2⟩ := hcap (by omega)
    refine And.intro ?_ (And.intro (fun hlt => ?_) (fun hlt => ?_))
    · (repeat' (first | exact trivial | exact fun _ => rfl | exact rfl | refine And.intro ?_ ?_))
    · have hlt' : m + 1 < h.n := by
        have := of_decide_eq_true hlt
        simp only at this
        omega
      (repeat' (first | exact trivial | exact fun _ => rfl | exact rfl | refine And.intro ?_ ?_))
      all_goals first | (first | omega | exact u0 (by omega) | exact u1 (by omega) | exact u1 ⟨by omega, by omega⟩ | exact un (by omega) | exact fun hh => hh | exact fun hh => absurd hh (by decide) | exact fun hh => congrArg not hh | exact fun hh => Bool.noConfusion (show true = false from hh) | exact fun hh => Bool.noConfusion (show false = true from hh)) | exact u0 (by omega) | (show _ * 32 ≤ 140737488355328; omega) | exact (fun k hk => by have h0 : k = 0 := Nat.lt_one_iff.1 hk; subst h0; rfl) | skip
      intro c5 h51 h52
      (repeat' (first | exact trivial | exact fun _ => rfl | exact rfl | refine And.intro ?_ ?_))
      all_goals first | (first | omega | exact u0 (by omega) | exact u1 (by omega) | exact u1 ⟨by omega, by omega⟩ | exact un (by omega) | exact fun hh => hh | exact fun hh => absurd hh (by decide) | exact fun hh => congrArg not hh | exact fun hh => Bool.noConfusion (show true = false from hh) | exact fun hh => Bool.noConfusion (show false = true from hh)) | exact u0 (by omega) | skip
      refine ⟨(m + 1 + 1, c5), ⟨hlt', fun _ => ⟨h51, h52⟩⟩, by simp only; omega, ?_⟩
      refine ent_tau [0, 1, 2, 3, 4, 5, 9] ⟨?_, by (repeat' (first | exact trivial | exact rfl | exact congrArg (SV.int .i64) (Int.natCast_succ _).symm | exact congrArg (SV.int .u64) (Int.natCast_succ _).symm | refine And.intro ?_ ?_)), rfl⟩
      (repeat' (first | exact trivial | exact rfl | exact fun _ _ => rfl | exact fun _ _ _ _ => rfl | exact Or.inl rfl | exact Or.inr rfl | refine And.intro ?_ ?_))
      exact app12 h m _ (z1 (m + 1))
    · have e : h.n = m + 1 := by
        have := of_decide_eq_false hlt
        simp only at this
        omega
      (repeat' (first | exact trivial | exact fun _ => rfl | exact rfl | refine And.intro ?_ ?_))
      refine CodeP.part (seg12c1 h hv cap c2 y hy hyn w nb hw hnb (m + 1) e) ?_
      exact ent_tau [0, 1, 2, 3, 4, 5, 6] ⟨by (repeat' (first | exact trivial | exact rfl | exact fun _ _ => rfl | exact fun _ _ _ _ => rfl | exact Or.inl rfl | exact Or.inr rfl | refine And.intro ?_ ?_)), by (repeat' (first | exact trivial | exact rfl | exact congrArg (SV.int .i64) (Int.natCast_succ _).symm | exact congrArg (SV.int .u64) (Int.natCast_succ _).symm | refine And.intro ?_ ?_)), rfl⟩
end Go.Proofs.Ytgofhjihkinknaa
