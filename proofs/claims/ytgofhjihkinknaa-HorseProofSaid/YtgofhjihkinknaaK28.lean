/-
  Parts: Qe, Rg, Qh, Rh, Ri, Qp, Qq, Rj.
-/
import Derived.Test.YtgofhjihkinknaaK14
import Derived.Test.YtgofhjihkinknaaK26
import Derived.Test.YtgofhjihkinknaaK25
set_option linter.unusedVariables false
/-
  Plain law: sets as signed numbers.
-/
namespace Go.Proofs.Ytgofhjihkinknaa
open Go Go.Sy Kuhn
set_option maxRecDepth 100000

theorem wrap64 (x : Nat) (h : x < 2 ^ 63) : IntKind.wrap .i64 (x : Int) = x := wrap_in (k := .i64) ⟨by omega, by omega⟩
theorem and64 {a b : Nat} (ha : a < 2 ^ 63) (hb : b < 2 ^ 64) : bitOp .and .i64 (a : Int) (b : Int) = ((a &&& b : Nat) : Int) := by
  show IntKind.wrap .i64 ((BitVec.ofInt 64 (a : Int) &&& BitVec.ofInt 64 (b : Int)).toNat : Int) = _
  rw [ofInt_nat, ofInt_nat, BitVec.toNat_and, BitVec.toNat_ofNat, BitVec.toNat_ofNat, Nat.mod_eq_of_lt (by omega), Nat.mod_eq_of_lt hb]
  exact wrap64 _ (Nat.lt_of_le_of_lt Nat.and_le_left ha)
theorem has64 {S n : Nat} (hS : S < 2 ^ 63) : decide (bitOp .and .i64 ((S : Int).fdiv (2 ^ n)) 1 = 1) = S.testBit n := by
  have e : (S : Int).fdiv (2 ^ n) = ((S / 2 ^ n : Nat) : Int) := by
    rw [Int.fdiv_eq_ediv_of_nonneg _ (by have := Nat.pow_pos (n := n) (show 0 < 2 by omega); exact_mod_cast Nat.zero_le _)]
    norm_cast
  have h1 : S / 2 ^ n < 2 ^ 63 := Nat.lt_of_le_of_lt (Nat.div_le_self _ _) hS
  have e2 := and64 (a := S / 2 ^ n) (b := 1) h1 (by decide)
  rw [e]
  have e3 : bitOp .and .i64 ((S / 2 ^ n : Nat) : Int) 1 = ((S / 2 ^ n &&& 1 : Nat) : Int) := e2
  rw [e3, Nat.and_one_is_mod, Nat.testBit_eq_decide_div_mod_eq]
  congr 1
  simp only [eq_iff_iff]
  omega
theorem has0 {S n : Nat} (hS : S < 2 ^ 63) : decide (bitOp .and .i64 ((S : Int).fdiv (2 ^ n)) 1 = 0) = !S.testBit n := by
  have e : (S : Int).fdiv (2 ^ n) = ((S / 2 ^ n : Nat) : Int) := by
    rw [Int.fdiv_eq_ediv_of_nonneg _ (by have := Nat.pow_pos (n := n) (show 0 < 2 by omega); exact_mod_cast Nat.zero_le _)]
    norm_cast
  have h1 : S / 2 ^ n < 2 ^ 63 := Nat.lt_of_le_of_lt (Nat.div_le_self _ _) hS
  have e2 := and64 (a := S / 2 ^ n) (b := 1) h1 (by decide)
  rw [e]
  have e3 : bitOp .and .i64 ((S / 2 ^ n : Nat) : Int) 1 = ((S / 2 ^ n &&& 1 : Nat) : Int) := e2
  rw [e3, Nat.and_one_is_mod, Nat.testBit_eq_decide_div_mod_eq]
  by_cases c : S / 2 ^ n % 2 = 1
  · rw [decide_eq_true c, decide_eq_false (by omega)]
    rfl
  · rw [decide_eq_false c, decide_eq_true (by omega)]
    rfl
end Go.Proofs.Ytgofhjihkinknaa
/-
  HorseProof: plain law of horses without one move.
-/
namespace Go.Proofs.Ytgofhjihkinknaa
open Go Go.Sy Kuhn
set_option linter.unusedSimpArgs false
set_option maxRecDepth 100000
set_option maxHeartbeats 4000000
attribute [local irreducible] CallP CodeP Ent YieldP
attribute [local irreducible] HD.ch maskO

def sk (j k : Nat) : Nat := if k < j then k else k + 1
/-- Horses without one move. -/
def delD (h : HD) (j : Nat) (b : Bool) (cap : Nat) : HD := ⟨h.pace, h.n - 1, fun k => h.at' (sk j k), fun k => h.pl (sk j k), fun k => h.lo (sk j k), fun k => h.hi (sk j k), b, cap⟩
theorem sk_lt {h : HD} {j k : Nat} (hj : j < h.n) (hk : k < h.n - 1) : sk j k < h.n ∧ sk j k ≠ j := by
  unfold sk
  split <;> omega
theorem del_valid {h : HD} (hv : h.Valid) {j : Nat} (hj : j < h.n) (b : Bool) (cap : Nat) : (delD h j b cap).Valid :=
  ⟨hv.1, by have := hv.2.1; show h.n - 1 ≤ 7; omega, fun i hi => hv.2.2 _ (sk_lt hj hi).1⟩
theorem del_emb {h : HD} {j : Nat} (hj : j < h.n) (b : Bool) (cap : Nat) (s : Bool) : HD.Emb (delD h j b cap) h s (sk j) where
  lt := fun a ha => (sk_lt hj ha).1
  inj := fun a b _ _ e => by
    unfold sk at e
    split at e <;> split at e <;> omega
  can := fun a b _ _ => by cases s <;> rfl
theorem del_few {h : HD} (hv : h.Valid) {j : Nat} (hj : j < h.n) (b : Bool) (cap : Nat) (s : Bool) : (delD h j b cap).few s = h.need s (fun i => !decide (i = j)) := by
  rw [(del_emb hj b cap s).need (del_valid hv hj b cap) hv]
  refine HD.need_congr hv fun i hi => ?_
  by_cases c : i = j
  · rw [decide_eq_true c]
    cases hc : HD.img (delD h j b cap) (sk j) i with
    | false => rfl
    | true =>
      obtain ⟨a, ha, e⟩ := HD.img_iff.1 hc
      exact absurd (e.trans c) (sk_lt hj ha).2
  · rw [decide_eq_false c]
    refine HD.img_iff.2 ⟨if i < j then i else i - 1, ?_, ?_⟩
    · show _ < h.n - 1
      split <;> omega
    · by_cases q : i < j
      · rw [if_pos q]
        unfold sk
        rw [if_pos q]
      · rw [if_neg q]
        unfold sk
        rw [if_neg (by omega)]
        omega
theorem del_le {h : HD} (hv : h.Valid) {j : Nat} (hj : j < h.n) (b : Bool) (cap : Nat) (s : Bool) : (delD h j b cap).few s ≤ h.few s ∧ h.few s ≤ (delD h j b cap).few s + 1 := by
  rw [del_few hv hj]
  refine ⟨HD.need_mono hv fun i _ _ => rfl, ?_⟩
  have := HD.need_del hv s HD.full j
  have e : h.need s (fun i => HD.full i && !decide (i = j)) = h.need s (fun i => !decide (i = j)) := HD.need_congr hv fun i _ => rfl
  rw [e] at this
  exact this
theorem del_not {h : HD} (hv : h.Valid) {j : Nat} (hj : j < h.n) (b : Bool) (cap : Nat) (s : Bool) (hb : (prfS h s).testBit j = false) : (delD h j b cap).few s = h.few s := by
  apply Nat.le_antisymm (del_le hv hj b cap s).1
  rw [del_few hv hj]
  exact prf_del hv hb
/-- Its rows: those before, and those behind. -/
theorem del_row (h : HD) (j : Nat) (b : Bool) (cap : Nat) (q : Nat) : HD.F (delD h j b cap) q = if q < j then HD.F h q else HD.F h (q + 1) := by
  unfold delD HD.F sk
  by_cases c : q < j
  · simp only [if_pos c]
  · simp only [if_neg c]
/-- The apart of own moves. -/
def apK (h : HD) (s : Bool) (O i : Nat) : Nat → Bool
  | 0 => true
  | k + 1 => apK h s O i k && (!O.testBit i || (!O.testBit k || !h.can s i k))
def apI (h : HD) (s : Bool) (O : Nat) : Nat → Bool
  | 0 => true
  | i + 1 => apI h s O i && apK h s O i h.n
theorem apK_iff {h : HD} {s : Bool} {O i : Nat} : ∀ {n : Nat}, apK h s O i n = true ↔ ∀ k, k < n → O.testBit i = true → O.testBit k = true → h.can s i k = false
  | 0 => ⟨fun _ k hk => absurd hk (Nat.not_lt_zero k), fun _ => rfl⟩
  | n + 1 => by
    simp only [apK, Bool.and_eq_true, apK_iff (n := n)]
    constructor
    · rintro ⟨a, b⟩ k hk bi bk
      by_cases c : k = n
      · subst c
        rw [bi, bk] at b
        simpa using b
      · exact a k (by omega) bi bk
    · refine fun H => ⟨fun k hk => H k (by omega), ?_⟩
      cases bi : O.testBit i with
      | false => rfl
      | true =>
        cases bk : O.testBit n with
        | false => simp
        | true =>
          rw [H n (by omega) bi bk]
          rfl
theorem apI_iff {h : HD} {s : Bool} {O : Nat} : ∀ {n : Nat}, apI h s O n = true ↔ ∀ i, i < n → ∀ k, k < h.n → O.testBit i = true → O.testBit k = true → h.can s i k = false
  | 0 => ⟨fun _ k hk => absurd hk (Nat.not_lt_zero k), fun _ => rfl⟩
  | n + 1 => by
    simp only [apI, Bool.and_eq_true, apI_iff (n := n), apK_iff]
    constructor
    · rintro ⟨a, b⟩ i hi
      by_cases c : i = n
      · rw [c]; exact b
      · exact a i (by omega)
    · exact fun H => ⟨fun i hi => H i (by omega), H n (by omega)⟩
theorem own_best {h : HD} (hv : h.Valid) {s : Bool} {O : Nat} (hO : O < 2 ^ h.n) (ha : apI h s O h.n = true) : ¬ (pop O > pop (prfS h s)) ∧ (pop O = pop (prfS h s) → ¬ O < prfS h s) := by
  have H := apI_iff.1 ha
  have := prf_best hv.2.1 (s := s) hO (fun i k hi hk bi bk _ => by
    unfold HD.apart
    rw [H i hi k hk bi bk, H k hk i hi bk bi]
    rfl)
  rcases this with e | e
  · rw [← e]
    exact ⟨by omega, fun _ => by omega⟩
  · unfold Prior at e
    simp only at e
    omega
end Go.Proofs.Ytgofhjihkinknaa
/-
  HorseFewest: the plan that is told, and the proof.
-/
namespace Go.Proofs.Ytgofhjihkinknaa
open Go Go.Sy Kuhn
set_option linter.unusedSimpArgs false
set_option maxRecDepth 100000
set_option maxHeartbeats 4000000
attribute [local irreducible] CallP CodeP Ent YieldP
attribute [local irreducible] HD.ch maskO

theorem prf128 {h : HD} (hv : h.Valid) (s : Bool) : prfS h s < 128 := Nat.lt_of_lt_of_le (prf_lt h hv.2.1 s) (Nat.pow_le_pow_right (n := 2) (by omega) hv.2.1)
end Go.Proofs.Ytgofhjihkinknaa
/-
  HorseProof: up to the moves without one.
-/
namespace Go.Proofs.Ytgofhjihkinknaa
open Go Go.Sy Kuhn
set_option linter.unusedSimpArgs false
set_option maxRecDepth 100000
set_option maxHeartbeats 4000000
attribute [local irreducible] CallP CodeP Ent YieldP
set_option maxHeartbeats 40000000
attribute [local irreducible] HD.ch maskO

noncomputable def T10c (h : HD) (s : Bool) (wh : Int) : Tm := mkT [] [(1, .bool s), (3, .int .u8 wh), (4, .ptr 1 0), (8, .bool false), (9, .int .i64 (prfS h s : Nat)), (18, .fn (.func 42) [] [])] 0 (List.replicate 201 none)
noncomputable def T10b (h : HD) (s : Bool) (wh : Int) (O : Nat) : Tm := mkT [] [(1, .bool s), (3, .int .u8 wh), (4, .ptr 1 0), (8, .bool false), (9, .int .i64 (prfS h s : Nat)), (11, .int .i64 (canN s)), (12, .int .i64 O), (13, .bool true)] 0 (List.replicate 201 none)
def H10 (h : HD) : SHeap := HD.H h ++ [some (.cells (bc h))]
theorem gd1x (G C : Bool) : under (some (gB none (wB true G))) (C = false → (some (gB (some (gB none (wB true G))) (wB false C))).getD true = true) := by
  cases G <;> cases C <;> simp [under, gB, wB]
theorem seg10b (h : HD) (hv : h.Valid) (s : Bool) (wh : Int) (O : Nat) (hO : O < 2 ^ h.n)
    (hc : 0 < h.n → CodeP Try.prog none 1 (sufC Try.f10 12) ⟨T10c h s wh, H10 h, []⟩ (KRet E Try.f10 1 (.bool true) (HD.H h))) :
    CodeP Try.prog none 1 (sufC Try.f10 8) ⟨T10b h s wh O, H10 h, []⟩ (KRet E Try.f10 1 (.bool true) (HD.H h)) := by
  have hn := hv.2.1
  have h7 : 2 ^ h.n ≤ 128 := Nat.pow_le_pow_right (n := 2) (by omega) hn
  have hO63 : O < 2 ^ 63 := by omega
  refine codeP_XK E_ok 4 ?_
  (repeat' (first | exact trivial | exact fun _ => rfl | exact rfl | refine And.intro ?_ ?_))
  refine loopP E_ok [1, 3, 4, 8, 9, 11, 12, 50] (fun i : Nat => [(13, .bool (apI h s O i)), (51, .int .i64 i)]) (fun _ H => H) (fun i => i ≤ h.n) (fun i => h.n - i) 0 (Nat.zero_le _) ?_ ?_
  · exact ent_tau [0, 1] ⟨by (repeat' (first | exact trivial | exact rfl | exact fun _ _ => rfl | exact fun _ _ _ _ => rfl | exact Or.inl rfl | exact Or.inr rfl | refine And.intro ?_ ?_)), by (repeat' (first | exact trivial | exact rfl | exact congrArg (SV.int .i64) (Int.natCast_succ _).symm | exact congrArg (SV.int .u64) (Int.natCast_succ _).symm | refine And.intro ?_ ?_)), rfl⟩
  rintro i hi
  refine And.intro ?_ (And.intro (fun hlt => ?_) (fun hlt => ?_))
  · (repeat' (first | exact trivial | exact fun _ => rfl | exact rfl | refine And.intro ?_ ?_))
  · have hlt' : i < h.n := by
      have := of_decide_eq_true hlt
      omega
    (repeat' (first | exact trivial | exact fun _ => rfl | exact rfl | refine And.intro ?_ ?_))
    all_goals first | exact True.intro | omega | exact u1 (lt64 (by omega)) | exact u0 (lt64 (by omega)) | (show under _ _; simp [under, gB, wB]; done) | (show under _ _; simp [under, gB, wB]; omega) | skip
    refine loopP E_ok [1, 3, 4, 8, 9, 11, 12, 14, 50, 51, 56] (fun k : Nat => [(13, .bool (apI h s O i && apK h s O i k)), (57, .int .i64 k)]) (fun _ H => H) (fun k => k ≤ h.n) (fun k => h.n - k) 0 (Nat.zero_le _) ?_ ?_
    · refine ent_tau [0, 1] ⟨by (repeat' (first | exact trivial | exact rfl | exact fun _ _ => rfl | exact fun _ _ _ _ => rfl | exact Or.inl rfl | exact Or.inr rfl | refine And.intro ?_ ?_)), ?_, rfl⟩
      (repeat' (first | exact trivial | exact rfl | exact congrArg SV.bool (Bool.and_true _).symm | refine And.intro ?_ ?_))
    rintro k hk
    refine And.intro ?_ (And.intro (fun hlk => ?_) (fun hlk => ?_))
    · (repeat' (first | exact trivial | exact fun _ => rfl | exact rfl | refine And.intro ?_ ?_))
    · have hlk' : k < h.n := by
        have := of_decide_eq_true hlk
        omega
      have ci := t16i h hv i k hlt' hlk'
      have hf : decide (fv h i k < canN s) = !h.can s i k := by
        have := fv_lt hv (s := s) hlt' (k := k)
        cases c : h.can s i k with
        | false =>
          exact decide_eq_true (this.2 c)
        | true =>
          refine decide_eq_false fun q => ?_
          rw [this.1 q] at c
          cases c
      obtain ⟨n1, e1⟩ : ∃ z, fv h i k = z := ⟨_, rfl⟩
      rw [e1] at ci hf
      have b1 := has0 (n := i) hO63
      have b2 := has0 (n := k) hO63
      (repeat' (first | exact trivial | exact fun _ => rfl | exact rfl | refine And.intro ?_ ?_))
      refine ci.use [0] ?_ (by (repeat' (first | exact trivial | exact rfl | exact fun _ _ => rfl | exact fun _ _ _ _ => rfl | exact Or.inl rfl | exact Or.inr rfl | refine And.intro ?_ ?_))) rfl
      clear ci
      all_goals (repeat' (first | exact trivial | exact fun _ => rfl | exact rfl | refine And.intro ?_ ?_))
      all_goals first | exact True.intro | omega | exact u1 (lt64 (by omega)) | exact u0 (lt64 (by omega)) | (show under _ _; simp [under, gB, wB]; done) | (show under _ _; simp [under, gB, wB]; omega) | skip
      all_goals intro hx
      all_goals first | exact absurd hx (by decide) | skip
      (repeat' (first | exact trivial | exact fun _ => rfl | exact rfl | refine And.intro ?_ ?_))
      all_goals first | exact True.intro | omega | exact u1 (lt64 (by omega)) | exact u0 (lt64 (by omega)) | (show under _ _; simp [under, gB, wB]; done) | (show under _ _; simp [under, gB, wB]; omega) | skip
      all_goals first | (show under _ _; exact gd1x _ _) | skip
      refine ⟨k + 1, hlk', by omega, ?_⟩
      refine ent_tau [0, 1] ⟨by (repeat' (first | exact trivial | exact rfl | exact fun _ _ => rfl | exact fun _ _ _ _ => rfl | exact Or.inl rfl | exact Or.inr rfl | refine And.intro ?_ ?_)), ?_, rfl⟩
      (repeat' (first | exact trivial | exact rfl | exact congrArg (SV.int .i64) (Int.natCast_succ _).symm | refine And.intro ?_ ?_))
      refine congrArg SV.bool ?_
      simp only [Int.toNat_natCast, b1, b2, hf, apK]
      generalize apI h s O i = q1
      generalize apK h s O i k = q2
      generalize O.testBit i = q3
      generalize O.testBit k = q4
      generalize h.can s i k = q5
      cases q1 <;> cases q2 <;> cases q3 <;> cases q4 <;> cases q5 <;> rfl
    · have e : k = h.n := by
        have := of_decide_eq_false hlk
        omega
      subst e
      (repeat' (first | exact trivial | exact fun _ => rfl | exact rfl | refine And.intro ?_ ?_))
      all_goals first | exact True.intro | omega | exact u1 (lt64 (by omega)) | exact u0 (lt64 (by omega)) | (show under _ _; simp [under, gB, wB]; done) | (show under _ _; simp [under, gB, wB]; omega) | skip
      refine ⟨i + 1, hlt', by omega, ?_⟩
      exact ent_tau [0, 1] ⟨by (repeat' (first | exact trivial | exact rfl | exact fun _ _ => rfl | exact fun _ _ _ _ => rfl | exact Or.inl rfl | exact Or.inr rfl | refine And.intro ?_ ?_)), by (repeat' (first | exact trivial | exact rfl | exact congrArg (SV.int .i64) (Int.natCast_succ _).symm | exact congrArg (SV.int .u64) (Int.natCast_succ _).symm | refine And.intro ?_ ?_)), rfl⟩
  · have e : i = h.n := by
      have := of_decide_eq_false hlt
      omega
    subst e
    have hneg : ¬ ((prfS h s : Nat) : Int) < 0 := by omega
    have cO := t42 O (by omega)
    have cS := t42 (prfS h s) (prf128 hv s)
    have hbest := fun a => own_best hv (s := s) hO a
    obtain ⟨pO, eO⟩ : ∃ p, pop O = p := ⟨_, rfl⟩
    obtain ⟨pS, eS⟩ : ∃ p, pop (prfS h s) = p := ⟨_, rfl⟩
    rw [eO] at cO hbest
    rw [eS] at cS hbest
    obtain ⟨r, hr⟩ : ∃ r, apI h s O h.n = r := ⟨_, rfl⟩
    cases r with
    | false =>
      all_goals (repeat' (first | exact trivial | exact fun _ => rfl | exact rfl | refine And.intro ?_ ?_))
      all_goals first | exact True.intro | omega | exact u1 (lt64 (by omega)) | exact u0 (lt64 (by omega)) | (show under _ _; simp [under, gB, wB]; done) | (show under _ _; simp [under, gB, wB]; omega) | skip
      all_goals intro g1
      all_goals first | (exfalso; revert g1; simp [gB, wB, hr, hneg]; done) | skip
      all_goals (repeat' (first | exact trivial | exact fun _ => rfl | exact rfl | refine And.intro ?_ ?_))
      all_goals first | exact True.intro | omega | exact u1 (lt64 (by omega)) | exact u0 (lt64 (by omega)) | (show under _ _; simp [under, gB, wB]; done) | (show under _ _; simp [under, gB, wB]; omega) | skip
      all_goals intro g2
      all_goals first | (exfalso; revert g2; simp [gB, wB, hr, hneg]; done) | skip
      all_goals (repeat' (first | exact trivial | exact fun _ => rfl | exact rfl | refine And.intro ?_ ?_))
      all_goals first | exact True.intro | omega | exact u1 (lt64 (by omega)) | exact u0 (lt64 (by omega)) | (show under _ _; simp [under, gB, wB]; done) | (show under _ _; simp [under, gB, wB]; omega) | skip
      all_goals intro g3
      all_goals first | (exfalso; revert g3; simp [gB, wB, hr, hneg]; done) | skip
      all_goals (repeat' (first | exact trivial | exact fun _ => rfl | exact rfl | refine And.intro ?_ ?_))
      all_goals first | exact True.intro | omega | exact u1 (lt64 (by omega)) | exact u0 (lt64 (by omega)) | (show under _ _; simp [under, gB, wB]; done) | (show under _ _; simp [under, gB, wB]; omega) | skip
      all_goals intro g4
      all_goals first | (exfalso; revert g4; simp [gB, wB, hr, hneg]; done) | skip
      (repeat' (first | exact trivial | exact fun _ => rfl | exact rfl | refine And.intro ?_ ?_))
      all_goals first | exact True.intro | omega | exact u1 (lt64 (by omega)) | exact u0 (lt64 (by omega)) | (show under _ _; simp [under, gB, wB]; done) | (show under _ _; simp [under, gB, wB]; omega) | skip
      · intro hx
        exfalso
        revert hx
        simp [hr, hneg]
      intro hx
      clear hx
      (repeat' (first | exact trivial | exact fun _ => rfl | exact rfl | refine And.intro ?_ ?_))
      · intro hz
        have h0 : h.n = 0 := by
          have := of_decide_eq_true hz
          omega
        have hS0 : prfS h s = 0 := by
          have := prf_lt h hn s
          rw [h0] at this
          omega
        all_goals (repeat' (first | exact trivial | exact fun _ => rfl | exact rfl | refine And.intro ?_ ?_))
        all_goals first | exact True.intro | omega | exact u1 (lt64 (by omega)) | exact u0 (lt64 (by omega)) | (show under _ _; simp [under, gB, wB]; done) | (show under _ _; simp [under, gB, wB]; omega) | skip
        all_goals intro g9
        all_goals first | (exfalso; revert g9; simp [gB, wB, hS0]; done) | skip
        refine t15.use [] ?_ trivial rfl
        (repeat' (first | exact trivial | exact fun _ => rfl | exact rfl | refine And.intro ?_ ?_))
        all_goals first | exact True.intro | omega | exact u1 (lt64 (by omega)) | exact u0 (lt64 (by omega)) | (show under _ _; simp [under, gB, wB]; done) | (show under _ _; simp [under, gB, wB]; omega) | skip
        refine ent_tau [0] ⟨by (repeat' (first | exact trivial | exact rfl | exact fun _ _ => rfl | exact fun _ _ _ _ => rfl | exact Or.inl rfl | exact Or.inr rfl | refine And.intro ?_ ?_)), ⟨rfl, ?_, trivial⟩, rfl⟩
        exact congrArg SV.bool (by simp [hS0])
      · intro hz
        (repeat' (first | exact trivial | exact fun _ => rfl | exact rfl | refine And.intro ?_ ?_))
        refine CodeP.part (hc (by
          have := of_decide_eq_false hz
          omega)) ?_
        exact ent_tau [0, 1] ⟨by (repeat' (first | exact trivial | exact rfl | exact fun _ _ => rfl | exact fun _ _ _ _ => rfl | exact Or.inl rfl | exact Or.inr rfl | refine And.intro ?_ ?_)), by (repeat' (first | exact trivial | exact rfl | exact congrArg (SV.int .i64) (Int.natCast_succ _).symm | exact congrArg (SV.int .u64) (Int.natCast_succ _).symm | refine And.intro ?_ ?_)), rfl⟩
    | true =>
      obtain ⟨h1, h2⟩ := hbest hr
      all_goals (repeat' (first | exact trivial | exact fun _ => rfl | exact rfl | refine And.intro ?_ ?_))
      all_goals first | exact True.intro | omega | exact u1 (lt64 (by omega)) | exact u0 (lt64 (by omega)) | (show under _ _; simp [under, gB, wB]; done) | (show under _ _; simp [under, gB, wB]; omega) | skip
      all_goals intro g1
      all_goals first | (exfalso; revert g1; simp [gB, wB, hr, hneg]; done) | skip
      refine cO.use [] ?_ trivial rfl
      all_goals (repeat' (first | exact trivial | exact fun _ => rfl | exact rfl | refine And.intro ?_ ?_))
      all_goals first | exact True.intro | omega | exact u1 (lt64 (by omega)) | exact u0 (lt64 (by omega)) | (show under _ _; simp [under, gB, wB]; done) | (show under _ _; simp [under, gB, wB]; omega) | skip
      all_goals intro g2
      all_goals first | (exfalso; revert g2; simp [gB, wB, hr, hneg]; done) | skip
      refine cS.use [] ?_ trivial rfl
      all_goals (repeat' (first | exact trivial | exact fun _ => rfl | exact rfl | refine And.intro ?_ ?_))
      all_goals first | exact True.intro | omega | exact u1 (lt64 (by omega)) | exact u0 (lt64 (by omega)) | (show under _ _; simp [under, gB, wB]; done) | (show under _ _; simp [under, gB, wB]; omega) | skip
      all_goals intro g3
      all_goals first | (exfalso; revert g3; simp [gB, wB, hr, hneg, h1]; done) | skip
      refine cO.use [] ?_ trivial rfl
      all_goals (repeat' (first | exact trivial | exact fun _ => rfl | exact rfl | refine And.intro ?_ ?_))
      all_goals first | exact True.intro | omega | exact u1 (lt64 (by omega)) | exact u0 (lt64 (by omega)) | (show under _ _; simp [under, gB, wB]; done) | (show under _ _; simp [under, gB, wB]; omega) | skip
      all_goals intro g4
      all_goals first | (exfalso; revert g4; simp [gB, wB, hr, hneg, h1]; done) | skip
      refine cS.use [] ?_ trivial rfl
      have h2' : ¬ (pO = pS ∧ O < prfS h s) := fun q => h2 q.1 q.2
      (repeat' (first | exact trivial | exact fun _ => rfl | exact rfl | refine And.intro ?_ ?_))
      all_goals first | exact True.intro | omega | exact u1 (lt64 (by omega)) | exact u0 (lt64 (by omega)) | (show under _ _; simp [under, gB, wB]; done) | (show under _ _; simp [under, gB, wB]; omega) | skip
      all_goals first | (show under _ _; simp [under, gB, wB, hr, hneg, h1]; done) | skip
      · intro hx
        exfalso
        revert hx
        simp [hr, hneg, h1]
        intro q
        have := h2 (Int.ofNat.inj q)
        omega
      intro hx
      clear hx
      (repeat' (first | exact trivial | exact fun _ => rfl | exact rfl | refine And.intro ?_ ?_))
      · intro hz
        have h0 : h.n = 0 := by
          have := of_decide_eq_true hz
          omega
        have hS0 : prfS h s = 0 := by
          have := prf_lt h hn s
          rw [h0] at this
          omega
        all_goals (repeat' (first | exact trivial | exact fun _ => rfl | exact rfl | refine And.intro ?_ ?_))
        all_goals first | exact True.intro | omega | exact u1 (lt64 (by omega)) | exact u0 (lt64 (by omega)) | (show under _ _; simp [under, gB, wB]; done) | (show under _ _; simp [under, gB, wB]; omega) | skip
        all_goals intro g9
        all_goals first | (exfalso; revert g9; simp [gB, wB, hS0]; done) | skip
        refine t15.use [] ?_ trivial rfl
        (repeat' (first | exact trivial | exact fun _ => rfl | exact rfl | refine And.intro ?_ ?_))
        all_goals first | exact True.intro | omega | exact u1 (lt64 (by omega)) | exact u0 (lt64 (by omega)) | (show under _ _; simp [under, gB, wB]; done) | (show under _ _; simp [under, gB, wB]; omega) | skip
        refine ent_tau [0] ⟨by (repeat' (first | exact trivial | exact rfl | exact fun _ _ => rfl | exact fun _ _ _ _ => rfl | exact Or.inl rfl | exact Or.inr rfl | refine And.intro ?_ ?_)), ⟨rfl, ?_, trivial⟩, rfl⟩
        exact congrArg SV.bool (by simp [hS0])
      · intro hz
        (repeat' (first | exact trivial | exact fun _ => rfl | exact rfl | refine And.intro ?_ ?_))
        refine CodeP.part (hc (by
          have := of_decide_eq_false hz
          omega)) ?_
        exact ent_tau [0, 1] ⟨by (repeat' (first | exact trivial | exact rfl | exact fun _ _ => rfl | exact fun _ _ _ _ => rfl | exact Or.inl rfl | exact Or.inr rfl | refine And.intro ?_ ?_)), by (repeat' (first | exact trivial | exact rfl | exact congrArg (SV.int .i64) (Int.natCast_succ _).symm | exact congrArg (SV.int .u64) (Int.natCast_succ _).symm | refine And.intro ?_ ?_)), rfl⟩
end Go.Proofs.Ytgofhjihkinknaa
/-
  HorseProof: the beginning.
-/
namespace Go.Proofs.Ytgofhjihkinknaa
open Go Go.Sy Kuhn
set_option linter.unusedSimpArgs false
set_option maxRecDepth 100000
set_option maxHeartbeats 4000000
attribute [local irreducible] CallP CodeP Ent YieldP
set_option maxHeartbeats 40000000
attribute [local irreducible] HD.ch maskO

theorem t10 (h : HD) (s : Bool) (bt wh : Int) (hbt : 0 ≤ bt ∧ bt ≤ 255)
    (hc : h.Valid → 0 < h.n → CodeP Try.prog none 1 (sufC Try.f10 12) ⟨T10c h s wh, H10 h, []⟩ (KRet E Try.f10 1 (.bool true) (HD.H h))) :
    CallP Try.prog 10 [HD.A h, .bool s, .int .u8 bt, .int .u8 wh] (HD.H h) (Ret (.bool true) (HD.H h)) := by
  obtain ⟨b, hb⟩ : ∃ b, vb h = b := ⟨_, rfl⟩
  have c33 := t33 h
  rw [hb] at c33
  refine callRK (E := E) E_ok 8 Try.func10 rfl ?_
  (repeat' (first | exact trivial | exact fun _ => rfl | exact rfl | refine And.intro ?_ ?_))
  refine c33.use [0] ?_ (by (repeat' (first | exact trivial | exact rfl | exact fun _ _ => rfl | exact fun _ _ _ _ => rfl | exact Or.inl rfl | exact Or.inr rfl | refine And.intro ?_ ?_))) rfl
  cases b with
  | false =>
    all_goals (repeat' (first | exact trivial | exact fun _ => rfl | exact rfl | refine And.intro ?_ ?_))
    all_goals first | exact True.intro | omega | exact u1 (lt64 (by omega)) | exact u0 (lt64 (by omega)) | (show under _ _; simp [under, gB, wB]; done) | (show under _ _; simp [under, gB, wB]; omega) | skip
    all_goals intro hx
    all_goals first | exact absurd hx (by decide) | skip
    (repeat' (first | exact trivial | exact fun _ => rfl | exact rfl | refine And.intro ?_ ?_))
    refine t15.use [] ?_ trivial rfl
    (repeat' (first | exact trivial | exact fun _ => rfl | exact rfl | refine And.intro ?_ ?_))
    all_goals first | exact True.intro | omega | exact u1 (lt64 (by omega)) | exact u0 (lt64 (by omega)) | (show under _ _; simp [under, gB, wB]; done) | (show under _ _; simp [under, gB, wB]; omega) | skip
    exact ent_tau [0] ⟨by (repeat' (first | exact trivial | exact rfl | exact fun _ _ => rfl | exact fun _ _ _ _ => rfl | exact Or.inl rfl | exact Or.inr rfl | refine And.intro ?_ ?_)), by (repeat' (first | exact trivial | exact rfl | exact congrArg (SV.int .i64) (Int.natCast_succ _).symm | exact congrArg (SV.int .u64) (Int.natCast_succ _).symm | refine And.intro ?_ ?_)), rfl⟩
  | true =>
    have hv := vb_iff.1 hb
    have hn := hv.2.1
    have h7 : 2 ^ h.n ≤ 128 := Nat.pow_le_pow_right (n := 2) (by omega) hn
    have h70 : 0 < 2 ^ h.n := Nat.pow_pos (by omega)
    have c28 := t28 h hv s
    have hpr : InR .i64 (1 * 2 ^ ((h.n : Nat) : Int).toNat) := by
      rw [pow_int]
      generalize 2 ^ h.n = p at h7 h70 ⊢
      constructor <;> omega
    have hpr2 : InR .i64 (1 * 2 ^ ((h.n : Nat) : Int).toNat - 1) := by
      rw [pow_int]
      generalize 2 ^ h.n = p at h7 h70 ⊢
      constructor <;> omega
    have hO : (bt.toNat &&& (2 ^ h.n - 1)) < 2 ^ h.n := Nat.lt_of_le_of_lt Nat.and_le_right (by omega)
    have eO : bitOp .and .i64 bt (1 * 2 ^ ((h.n : Nat) : Int).toNat - 1) = ((bt.toNat &&& (2 ^ h.n - 1) : Nat) : Int) := by
      have := and64 (a := bt.toNat) (b := 2 ^ h.n - 1) (by omega) (by omega)
      rw [show ((bt.toNat : Nat) : Int) = bt by omega] at this
      rw [← this, pow_int]
      congr 1
      generalize 2 ^ h.n = p at h7 h70 ⊢
      omega
    have seg := seg10b h hv s wh (bt.toNat &&& (2 ^ h.n - 1)) hO (hc hv)
    all_goals (repeat' (first | exact trivial | exact fun _ => rfl | exact rfl | refine And.intro ?_ ?_))
    all_goals first | exact True.intro | omega | exact u1 (lt64 (by omega)) | exact u0 (lt64 (by omega)) | (show under _ _; simp [under, gB, wB]; done) | (show under _ _; simp [under, gB, wB]; omega) | skip
    all_goals intro hx
    all_goals first | exact absurd hx (by decide) | skip
    (repeat' (first | exact trivial | exact fun _ => rfl | exact rfl | refine And.intro ?_ ?_))
    refine c28.use [0] ?_ (by (repeat' (first | exact trivial | exact rfl | exact fun _ _ => rfl | exact fun _ _ _ _ => rfl | exact Or.inl rfl | exact Or.inr rfl | refine And.intro ?_ ?_))) rfl
    all_goals (repeat' (first | exact trivial | exact fun _ => rfl | exact rfl | refine And.intro ?_ ?_))
    all_goals first | exact True.intro | omega | exact u1 (lt64 (by omega)) | exact u0 (lt64 (by omega)) | (show under _ _; simp [under, gB, wB]; done) | (show under _ _; simp [under, gB, wB]; omega) | skip
    all_goals intro hy
    all_goals first | exact absurd hy (by decide) | skip
    (repeat' (first | exact trivial | exact fun _ => rfl | exact rfl | refine And.intro ?_ ?_))
    all_goals intro hs
    all_goals subst hs
    all_goals (repeat' (first | exact trivial | exact fun _ => rfl | exact rfl | refine And.intro ?_ ?_))
    all_goals first | (first | omega | exact u0 (by omega) | exact u1 (by omega) | exact u1 ⟨by omega, by omega⟩ | exact un (by omega) | exact fun hh => hh | exact fun hh => absurd hh (by decide) | exact fun hh => congrArg not hh | exact fun hh => Bool.noConfusion (show true = false from hh) | exact fun hh => Bool.noConfusion (show false = true from hh)) | exact hpr.1 | exact hpr.2 | exact hpr2.1 | exact hpr2.2 | exact u0 (lt64 (by omega)) | skip
    all_goals refine CodeP.pre ?_ seg
    all_goals refine ent_tau [0, 1] ⟨by (repeat' (first | exact trivial | exact rfl | exact fun _ _ => rfl | exact fun _ _ _ _ => rfl | exact Or.inl rfl | exact Or.inr rfl | refine And.intro ?_ ?_)), ?_, rfl⟩
    all_goals (repeat' (first | exact trivial | exact rfl | exact congrArg (SV.int .i64) eO | refine And.intro ?_ ?_))
end Go.Proofs.Ytgofhjihkinknaa
/-
  Contracts: horses without some moves.
-/
namespace Go.Proofs.Ytgofhjihkinknaa
open Go Go.Sy Kuhn
set_option linter.unusedSimpArgs false
set_option maxRecDepth 100000
set_option maxHeartbeats 4000000
attribute [local irreducible] CallP CodeP Ent YieldP
attribute [local irreducible] HD.ch maskO

/-- The moves that are left. -/
def keepL (S n : Nat) : List Nat := (List.range n).filter fun j => !S.testBit j
def ek (S n k : Nat) : Nat := (keepL S n).getD k 0
end Go.Proofs.Ytgofhjihkinknaa
/-
  Contracts: are so many horses enough without some moves?
-/
namespace Go.Proofs.Ytgofhjihkinknaa
open Go Go.Sy Kuhn
set_option linter.unusedSimpArgs false
set_option maxRecDepth 100000
set_option maxHeartbeats 4000000
attribute [local irreducible] CallP CodeP Ent YieldP
attribute [local irreducible] HD.ch maskO

/-- Fewest, of moves in a slice of one's own. -/
theorem t26s (x : HD) (hv : x.Valid) (hb : x.b = true) (s : Bool) (n : Nat) (hn : x.n = n) : CallP Try.prog 26 [.agg [.int .i64 x.pace, .slice 0 4 0 n x.cap], .bool s] [some (.roa 4 n (HD.F x))] (Ret (.tup [.int .i64 (x.few s : Nat), .slice 1 1 0 n n, .int .i64 0]) [some (.roa 4 n (HD.F x)), some (.arr 1 n n (plF x s))]) := by
  subst hn
  exact CallP.argsD (args' := [HD.A x, .bool s]) (fun η => by simp [den, denL, HD.A, hb]) (t26 x hv s)
end Go.Proofs.Ytgofhjihkinknaa
/-
  HorseProof: without one move.
-/
namespace Go.Proofs.Ytgofhjihkinknaa
open Go Go.Sy Kuhn
set_option linter.unusedSimpArgs false
set_option maxRecDepth 100000
set_option maxHeartbeats 4000000
attribute [local irreducible] CallP CodeP Ent YieldP
set_option maxHeartbeats 40000000
attribute [local irreducible] HD.ch maskO

/-- The horses, as a slice that is surely one. -/
def bd (h : HD) : List SV := [.int .i64 h.pace, .slice 0 4 0 h.n h.cap]
/-- Those without one move. -/
def be (h : HD) (L cap : Nat) : List SV := [.int .i64 h.pace, .slice 3 4 0 L cap]
noncomputable def T10d (h : HD) (s : Bool) (m : Nat) : Tm := mkT [] [(1, .bool s), (4, .ptr 1 0), (8, .bool false), (9, .int .i64 (prfS h s : Nat)), (18, .fn (.func 42) [] []), (19, .int .i64 m), (20, .ptr 2 0)] 0 (List.replicate 201 none)
theorem seg10e (h : HD) (hv : h.Valid) (hb : h.b = true) (s : Bool) (m : Nat) (hm : m < h.n) (cap L : Nat) (hL : L = h.n - 1) :
    CodeP Try.prog none 1 (sufC Try.f10 15) ⟨T10d h s m, HD.H h ++ [some (.roc (bd h)), some (.roc (be h L cap)), some (.roa 4 L (HD.F (delD h m true cap)))], []⟩ (KRet E Try.f10 1 (.bool true) (HD.H h)) := by
  have hn := hv.2.1
  have c1 := t26s h hv hb s h.n rfl
  have c2 := t26s (delD h m true cap) (del_valid hv hm true cap) rfl s L hL.symm
  have cS := t42 (prfS h s) (prf128 hv s)
  have b1 := has64 (S := prfS h s) (n := m) (by have := prf128 hv s; omega)
  obtain ⟨d1, d2⟩ := del_le hv hm true cap s
  have d3 := del_not hv hm true cap s
  have d4 := prf_pop hv s
  have d5 := few_le h s
  obtain ⟨pS, eS⟩ : ∃ p, pop (prfS h s) = p := ⟨_, rfl⟩
  rw [eS] at cS d4
  obtain ⟨fa, ea⟩ : ∃ p, h.few s = p := ⟨_, rfl⟩
  rw [ea] at c1 d1 d2 d3 d4 d5
  obtain ⟨fb, eb⟩ : ∃ p, (delD h m true cap).few s = p := ⟨_, rfl⟩
  rw [eb] at c2 d1 d2 d3
  subst d4
  refine codeP_XK E_ok 100 ?_
  (repeat' (first | exact trivial | exact fun _ => rfl | exact rfl | refine And.intro ?_ ?_))
  refine c1.use [0] ?_ (by (repeat' (first | exact trivial | exact rfl | exact fun _ _ => rfl | exact fun _ _ _ _ => rfl | exact Or.inl rfl | exact Or.inr rfl | refine And.intro ?_ ?_))) rfl
  (repeat' (first | exact trivial | exact fun _ => rfl | exact rfl | refine And.intro ?_ ?_))
  refine c2.use [3] ?_ (by (repeat' (first | exact trivial | exact rfl | exact fun _ _ => rfl | exact fun _ _ _ _ => rfl | exact Or.inl rfl | exact Or.inr rfl | refine And.intro ?_ ?_))) rfl
  all_goals (repeat' (first | exact trivial | exact fun _ => rfl | exact rfl | refine And.intro ?_ ?_))
  all_goals first | exact True.intro | omega | exact u1 (lt64 (by omega)) | exact u0 (lt64 (by omega)) | (show under _ _; simp [under, gB, wB]; done) | (show under _ _; simp [under, gB, wB]; omega) | skip
  all_goals intro g1
  all_goals first | (exfalso; revert g1; simp [gB, wB]; done) | skip
  refine cS.use [] ?_ trivial rfl
  have k1 : decide ((fb : Int) ≤ (pS : Int)) = true := decide_eq_true (by omega)
  have k2 : decide ((fb : Int) ≥ (pS : Int) - 1) = true := decide_eq_true (by omega)
  have k3 : (bif decide (bitOp .and .i64 (((prfS h s : Nat) : Int).fdiv (2 ^ ((m : Nat) : Int).toNat)) 1 = 1) then true else decide ((fb : Int) = (pS : Int))) = true := by
    rw [Int.toNat_natCast, b1]
    cases c : (prfS h s).testBit m with
    | true => rfl
    | false =>
      rw [d3 c]
      exact decide_eq_true rfl
  all_goals (repeat' (first | exact trivial | exact fun _ => rfl | exact rfl | refine And.intro ?_ ?_))
  all_goals first | exact True.intro | omega | exact u1 (lt64 (by omega)) | exact u0 (lt64 (by omega)) | (show under _ _; simp [under, gB, wB]; done) | (show under _ _; simp [under, gB, wB]; omega) | skip
  all_goals intro g2
  all_goals first | (exfalso; revert g2; simp [gB, wB]; done) | skip
  (repeat' (first | exact trivial | exact fun _ => rfl | exact rfl | refine And.intro ?_ ?_))
  · omega
  · omega
  · refine t15.use [] ?_ trivial rfl
    (repeat' (first | exact trivial | exact fun _ => rfl | exact rfl | refine And.intro ?_ ?_))
    all_goals first | exact True.intro | omega | exact u1 (lt64 (by omega)) | exact u0 (lt64 (by omega)) | (show under _ _; simp [under, gB, wB]; done) | (show under _ _; simp [under, gB, wB]; omega) | skip
    refine ent_tau [0] ⟨by (repeat' (first | exact trivial | exact rfl | exact fun _ _ => rfl | exact fun _ _ _ _ => rfl | exact Or.inl rfl | exact Or.inr rfl | refine And.intro ?_ ?_)), ⟨rfl, ?_, trivial⟩, rfl⟩
    refine Eq.trans (b := SV.bool true) (congrArg SV.bool ?_) rfl
    rw [k3, k1, k2]
    simp
  · exfalso
    rw [k1, k2, k3] at g2
    exact absurd g2 (by simp [gB, wB])
  · exfalso
    rw [k1, k2, k3] at g2
    exact absurd g2 (by simp [gB, wB])
theorem seg10d (h : HD) (hv : h.Valid) (hb : h.b = true) (hcp : h.n ≤ h.cap ∧ h.cap ≤ 9223372036854775807) (s : Bool) (m : Nat) (hm : m < h.n) :
    CodeP Try.prog none 1 (sufC Try.f10 14) ⟨T10d h s m, HD.H h ++ [some (.cells (bd h)), some (.cells (bd h))], []⟩ (KRet E Try.f10 1 (.bool true) (HD.H h)) := by
  have hn := hv.2.1
  have seg := seg10e h hv hb s m hm
  have ti : ti54.bytes = 32 := rfl
  refine codeP_XK E_ok 1 ?_
  (repeat' (first | exact trivial | exact fun _ => rfl | exact rfl | refine And.intro ?_ ?_))
  refine drawP E_ok [1] pl10_30 (by kernel_rfl) ?_
  (repeat' (first | exact trivial | exact fun _ => rfl | exact rfl | refine And.intro ?_ ?_))
  · omega
  · omega
  · omega
  · rw [ti]; omega
  · exact fun k hk => rfl
  · omega
  · exact u0 (by omega)
  · exact u0 (by omega)
  · exact u0 (by omega)
  · omega
  · omega
  · exact u0 (by omega)
  · exact u0 (by omega)
  intro cap1 hc1 hc2
  (repeat' (first | exact trivial | exact fun _ => rfl | exact rfl | refine And.intro ?_ ?_))
  · exact Nat.le_refl _
  · omega
  · split <;> omega
  · show (0 + (m : Int).toNat + (h.n - ((m : Int) + 1).toNat)) * 32 ≤ _
    omega
  · exact fun k hk => rfl
  · omega
  intro cap2 hc3 hc4
  (repeat' (first | exact trivial | exact fun _ => rfl | exact rfl | refine And.intro ?_ ?_))
  refine CodeP.part (seg cap2 (0 + (m : Int).toNat + (h.n - ((m : Int) + 1).toNat)) (by omega)) ?_
  refine ent_tau [0, 1, 2, 5] ⟨?_, ?_, rfl⟩
  · (repeat' (first | exact trivial | exact rfl | exact fun _ _ => rfl | exact fun _ _ _ _ => rfl | exact Or.inl rfl | exact Or.inr rfl | refine And.intro ?_ ?_))
    intro k hk
    refine Eq.symm (Eq.trans (b := selL (decide (k < 0 + (m : Int).toNat)) (selL (decide (k < 0)) (getOf 4 (repL 0 [SV.int IntKind.i64 0, SV.int IntKind.i64 0, SV.int IntKind.i64 0, SV.int IntKind.i64 0]) k) (HD.F h (0 + (k - 0)))) (HD.F h ((0 + if ((m : Int) + 1).toNat = h.cap then 0 else ((m : Int) + 1).toNat) + (k - (0 + (m : Int).toNat))))) ?_ rfl)
    show HD.F (delD h m true cap2) k = _
    rw [del_row]
    have e0 : 0 + (m : Int).toNat = m := by omega
    have hk' : k < 0 + (m : Int).toNat + (h.n - ((m : Int) + 1).toNat) := hk
    by_cases c : k < m
    · rw [if_pos c, e0, decide_eq_true c, decide_eq_false (show ¬ k < 0 by omega), selL_true, selL_false, show 0 + (k - 0) = k by omega]
    · rw [if_neg c, e0, decide_eq_false c, selL_false, if_neg (by omega), show 0 + ((m : Int) + 1).toNat + (k - m) = k + 1 by omega]
  · (repeat' (first | exact trivial | exact rfl | exact congrArg (SV.int .i64) (Int.natCast_succ _).symm | exact congrArg (SV.int .u64) (Int.natCast_succ _).symm | refine And.intro ?_ ?_))
theorem seg10c (h : HD) (hv : h.Valid) (hnb : h.b = false → h.n = 0) (hcp : h.n ≤ h.cap ∧ h.cap ≤ 9223372036854775807) (s : Bool) (wh : Int) (hwh : 0 ≤ wh ∧ wh ≤ 255) (h0 : 0 < h.n) : CodeP Try.prog none 1 (sufC Try.f10 12) ⟨T10c h s wh, H10 h, []⟩ (KRet E Try.f10 1 (.bool true) (HD.H h)) := by
  have hn := hv.2.1
  have hb : h.b = true := by
    cases c : h.b with
    | true => rfl
    | false =>
      have := hnb c
      omega
  have hj : 0 ≤ wh.tmod (h.n : Nat) ∧ wh.tmod (h.n : Nat) < (h.n : Nat) := ⟨Int.tmod_nonneg _ hwh.1, Int.tmod_lt_of_pos _ (by omega)⟩
  obtain ⟨m, em⟩ : ∃ m : Nat, wh.tmod (h.n : Nat) = m := ⟨(wh.tmod (h.n : Nat)).toNat, by omega⟩
  have seg := seg10d h hv hb hcp s m (by omega)
  refine CodeP.pre (entCells (i := 1) (cs' := [.int .i64 h.pace, .slice 0 4 0 h.n h.cap]) rfl (fun η => by simp [denL, den, bc, hb])) ?_
  refine codeP_XK E_ok 2 ?_
  (repeat' (first | exact trivial | exact fun _ => rfl | exact rfl | refine And.intro ?_ ?_))
  · exact u0 (by omega)
  · omega
  · omega
  refine CodeP.part seg ?_
  refine ent_tau [0, 1, 2] ⟨by (repeat' (first | exact trivial | exact rfl | exact fun _ _ => rfl | exact fun _ _ _ _ => rfl | exact Or.inl rfl | exact Or.inr rfl | refine And.intro ?_ ?_)), ?_, rfl⟩
  (repeat' (first | exact trivial | exact rfl | exact congrArg (SV.int .i64) em | refine And.intro ?_ ?_))
theorem t10f (h : HD) (hnb : h.b = false → h.n = 0) (hcp : h.n ≤ h.cap ∧ h.cap ≤ 9223372036854775807) (s : Bool) (bt wh : Int) (hbt : 0 ≤ bt ∧ bt ≤ 255) (hwh : 0 ≤ wh ∧ wh ≤ 255) :
    CallP Try.prog 10 [HD.A h, .bool s, .int .u8 bt, .int .u8 wh] (HD.H h) (Ret (.bool true) (HD.H h)) :=
  t10 h s bt wh hbt fun hv h0 => seg10c h hv hnb hcp s wh hwh h0
end Go.Proofs.Ytgofhjihkinknaa
