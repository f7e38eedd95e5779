/-
  Parts: B24, B25, B26, B21.
-/
import Derived.Test.YtioajogaghgipaaK20
set_option linter.unusedVariables false
/-
  Contracts: some of the tickets.
-/
namespace Go.Proofs.Ytioajogaghgipaa
open Go Go.Sy Tic
set_option linter.unusedSimpArgs false
set_option maxRecDepth 100000
set_option maxHeartbeats 4000000
attribute [local irreducible] CallP CodeP Ent YieldP
set_option maxHeartbeats 16000000

theorem wrap_bv (x : BitVec 64) : IntKind.wrap .u64 (x.toNat : Int) = x.toNat := wrap_in (k := .u64) ⟨by omega, by have := x.isLt; omega⟩
theorem and_nat {a b : Nat} (ha : a < 2 ^ 64) (hb : b < 2 ^ 64) : bitOp .and .u64 (a : Int) (b : Int) = ((a &&& b : Nat) : Int) := by
  show IntKind.wrap .u64 ((BitVec.ofInt 64 (a : Int) &&& BitVec.ofInt 64 (b : Int)).toNat : Int) = _
  rw [wrap_bv, ofInt_nat, ofInt_nat, BitVec.toNat_and, BitVec.toNat_ofNat, BitVec.toNat_ofNat, Nat.mod_eq_of_lt ha, Nat.mod_eq_of_lt hb]
theorem hasnot_nat {S n : Nat} (hS : S < 2 ^ 64) : decide (bitOp .and .u64 ((S : Int).fdiv (2 ^ n)) 1 = 0) = !S.testBit n := by
  have e : (S : Int).fdiv (2 ^ n) = ((S / 2 ^ n : Nat) : Int) := by
    rw [Int.fdiv_eq_ediv_of_nonneg _ (by have := Nat.pow_pos (n := n) (show 0 < 2 by omega); exact_mod_cast Nat.zero_le _)]
    norm_cast
  have h1 : S / 2 ^ n < 2 ^ 64 := Nat.lt_of_le_of_lt (Nat.div_le_self _ _) hS
  have e2 := and_nat (a := S / 2 ^ n) (b := 1) h1 (by decide)
  rw [e]
  have e3 : bitOp .and .u64 ((S / 2 ^ n : Nat) : Int) 1 = ((S / 2 ^ n &&& 1 : Nat) : Int) := e2
  rw [e3, Nat.and_one_is_mod, Nat.testBit_eq_decide_div_mod_eq]
  by_cases c : S / 2 ^ n % 2 = 1
  · rw [decide_eq_true c, decide_eq_false (by omega)]
    rfl
  · rw [decide_eq_false c, decide_eq_true (by omega)]
    rfl
/-- How far it has come, and the set. -/
def HC (c : Int) (S : Nat) : SHeap := [some (.cells [.int .i64 c]), some (.roc [.int .u64 S])]
theorem t110 (a b h d e : Int) (k : Nat) (hk : k < 64) (S : Nat) (hS : S < 2 ^ 64) : CallP Try.prog 110 [.agg [.int .i64 a, .int .i64 b, .int .i64 h, .int .i64 d, .int .i64 e], .ptr 0 0, .ptr 1 0] (HC ((k : Nat) - 1) S) (Ret (.bool (!S.testBit k)) (HC (k : Nat) S)) := by
  have e1 : ((k : Nat) : Int) - 1 + 1 = (k : Nat) := by omega
  have hb := hasnot_nat (n := k) hS
  refine callR (E := E) E_ok Try.func110 rfl ?_
  (repeat' (first | exact ap | refine And.intro ?_ ?_))
  all_goals first | exact om | skip
  all_goals first | exact u0 (show (0 : Int) ≤ (k : Nat) - 1 + 1 by omega) | exact u0 (show (k : Nat) - 1 + 1 < ((IntKind.bits .u64 : Nat) : Int) from (by rw [e1]; show ((k : Nat) : Int) < 64; omega)) | skip
  refine ent_tau [0, 1] ⟨?_, ⟨rfl, ?_, trivial⟩, rfl⟩
  · (repeat' (first | exact fp | refine And.intro ?_ ?_))
    exact congrArg (fun z => [SV.int .i64 z]) e1
  · refine congrArg SV.bool ?_
    rw [e1, Int.toNat_natCast]
    exact hb
/-- The first one that is to go, or none. -/
def K114 (t : TK) (S : Nat) : CE → SHeap → Prop := fun ce h' =>
  (∃ i : Nat, i < t.n ∧ S.testBit i = false ∧ (∀ j, j < i → S.testBit j = true) ∧ ce = .ret (.int .i64 i) ∧ h' = some (.roa 5 t.n (TF t)) :: HC (i : Nat) S) ∨
  ((∀ j, j < t.n → S.testBit j = true) ∧ ce = .ret (.int .i64 (-1)) ∧ h' = [some (.roa 5 t.n (TF t)), some .dead, some (.roc [.int .u64 S])])
theorem t114 (t : TK) (hn : t.n ≤ 5) (S : Nat) (hS : S < 2 ^ 64) : CallP Try.prog 114 [.slice 0 5 0 t.n t.n, .fn (.func 110) [] [.ptr 1 0, .ptr 2 0]] (some (.roa 5 t.n (TF t)) :: HC (-1) S) (K114 t S) := by
  refine callK (E := E) E_ok Try.func114 rfl ?_
  (repeat' (first | exact ap | refine And.intro ?_ ?_))
  refine loopP E_ok [0, 1, 7] (fun i : Nat => [(8, .int .i64 i)]) (fun i _ => some (.roa 5 t.n (TF t)) :: HC ((i : Nat) - 1) S) (fun i => i ≤ t.n ∧ ∀ j, j < i → S.testBit j = true) (fun i => t.n - i) 0 ⟨Nat.zero_le _, fun j hj => absurd hj (Nat.not_lt_zero j)⟩ ?_ ?_
  · exact ent_tau [0, 1, 2] ⟨by (repeat' (first | exact fp | refine And.intro ?_ ?_)), by (repeat' (first | exact tm | refine And.intro ?_ ?_)), rfl⟩
  rintro i ⟨hi, hall⟩
  refine And.intro ?_ (And.intro (fun hc => ?_) (fun hc => ?_))
  · (repeat' (first | exact ap | refine And.intro ?_ ?_))
  · have hlt : i < t.n := by
      have := of_decide_eq_true hc
      omega
    have ei := z1 i
    have c := t110 (t.bl (0 + ((i : Nat) : Int).toNat)) (t.bh (0 + ((i : Nat) : Int).toNat)) (t.hut (0 + ((i : Nat) : Int).toNat)) (t.dl (0 + ((i : Nat) : Int).toNat)) (t.dh (0 + ((i : Nat) : Int).toNat)) i (by omega) S hS
    cases hb : S.testBit i with
    | true =>
      rw [hb] at c
      (repeat' (first | exact ap | refine And.intro ?_ ?_))
      all_goals first | exact om | skip
      refine c.use [1, 2] ?_ (by (repeat' (first | exact fp | refine And.intro ?_ ?_))) rfl
      all_goals (repeat' (first | exact ap | refine And.intro ?_ ?_))
      all_goals first | exact gd | skip
      all_goals intro h1
      all_goals first | exact absurd h1 (by decide) | (cases h1; done) | skip
      (repeat' (first | exact ap | refine And.intro ?_ ?_))
      all_goals first | exact om | skip
      refine ⟨i + 1, ⟨hlt, fun j hj => ?_⟩, by omega, ?_⟩
      · rcases Nat.lt_succ_iff_lt_or_eq.1 hj with d | rfl
        · exact hall j d
        · exact hb
      refine ent_tau [0, 1, 2] ⟨?_, by (repeat' (first | exact tm | refine And.intro ?_ ?_)), rfl⟩
      (repeat' (first | exact fp | refine And.intro ?_ ?_))
      exact congrArg (fun z => [SV.int .i64 z]) (show ((i : Nat) : Int) = ((i + 1 : Nat) : Int) - 1 by omega)
    | false =>
      rw [hb] at c
      (repeat' (first | exact ap | refine And.intro ?_ ?_))
      all_goals first | exact om | skip
      refine c.use [1, 2] ?_ (by (repeat' (first | exact fp | refine And.intro ?_ ?_))) rfl
      all_goals (repeat' (first | exact ap | refine And.intro ?_ ?_))
      all_goals first | exact gd | skip
      all_goals intro h1
      all_goals first | exact absurd h1 (by decide) | (cases h1; done) | skip
      (repeat' (first | exact ap | refine And.intro ?_ ?_))
      all_goals first | exact om | skip
      refine ⟨_, _, .inl ⟨i, hlt, hb, hall, rfl, rfl⟩, ?_⟩
      exact ent_tau [0, 1, 2] ⟨by (repeat' (first | exact fp | refine And.intro ?_ ?_)), by (repeat' (first | exact tm | refine And.intro ?_ ?_)), rfl⟩
  · have e : i = t.n := by
      have := of_decide_eq_false hc
      omega
    subst e
    (repeat' (first | exact ap | refine And.intro ?_ ?_))
    refine ⟨_, _, .inr ⟨hall, rfl, rfl⟩, ?_⟩
    exact ent_tau [0, 1, 2] ⟨by (repeat' (first | exact fp | refine And.intro ?_ ?_)), by (repeat' (first | exact tm | refine And.intro ?_ ?_)), rfl⟩
end Go.Proofs.Ytioajogaghgipaa
/-
  Contract: some of the tickets are taken out.
-/
namespace Go.Proofs.Ytioajogaghgipaa
open Go Go.Sy Tic
set_option linter.unusedSimpArgs false
set_option maxRecDepth 100000
set_option maxHeartbeats 4000000
attribute [local irreducible] CallP CodeP Ent YieldP
set_option maxHeartbeats 16000000

theorem pickL_all {S : Nat} : ∀ {k : Nat}, (∀ j, j < k → S.testBit j = true) → TK.pickL S k = List.range k
  | 0, _ => rfl
  | k + 1, h => by
    rw [TK.pickL, pickL_all (fun j hj => h j (by omega)), h k (Nat.lt_succ_self k), List.range_succ]
theorem pickL_yes {S k : Nat} (h : S.testBit k = true) : TK.pickL S (k + 1) = TK.pickL S k ++ [k] := by
  rw [TK.pickL, h]
theorem pickL_no {S k : Nat} (h : S.testBit k = false) : TK.pickL S (k + 1) = TK.pickL S k := by
  rw [TK.pickL, h, List.append_nil]
theorem pickL_len (S : Nat) : ∀ k, (TK.pickL S k).length ≤ k
  | 0 => Nat.le_refl _
  | k + 1 => by
    have := pickL_len S k
    rw [TK.pickL, List.length_append]
    cases S.testBit k <;> simp <;> omega
theorem getD_range {k q : Nat} (h : q < k) : (List.range k).getD q 0 = q := by
  rw [List.getD_eq_getElem?_getD, List.getElem?_range h]
  rfl
def wr (w : Nat → Nat) (i j : Nat) : Nat → Nat := fun m => if m = i then w j else w m
theorem wr_row (t : TK) (w : Nat → Nat) {a b i j : Nat} (ha : a = i) (hb : b = j) (q : Nat) : selL (decide (q = a)) (splice (TF t (w a)) 0 (TF t (w b))) (TF t (w q)) = TF t (wr w i j q) := by
  subst ha hb
  unfold wr
  by_cases c : q = a
  · rw [if_pos c, decide_eq_true c]
    rfl
  · rw [if_neg c, decide_eq_false c]
    rfl
structure Inv9 (t : TK) (S : Nat) (j i : Nat) (w : Nat → Nat) : Prop where
  jn : j ≤ t.n
  ij : i < j
  len : i = (TK.pickL S j).length
  lo : ∀ q, q < i → w q = (TK.pickL S j).getD q 0
  hi : ∀ q, j ≤ q → w q = q
theorem Inv9.yes {t : TK} {S j i : Nat} {w : Nat → Nat} (h : Inv9 t S j i w) (hj : j < t.n) (hb : S.testBit j = true) : Inv9 t S (j + 1) (i + 1) (wr w i j) := by
  have hl := h.len
  have hij := h.ij
  refine ⟨hj, by omega, ?_, fun q hq => ?_, fun q hq => ?_⟩
  · rw [pickL_yes hb, List.length_append, ← hl]
    rfl
  · rw [pickL_yes hb]
    unfold wr
    rcases Nat.lt_succ_iff_lt_or_eq.1 hq with c | rfl
    · rw [if_neg (by omega), h.lo q c, List.getD_eq_getElem?_getD, List.getD_eq_getElem?_getD, List.getElem?_append_left (by omega)]
    · rw [if_pos rfl, h.hi j (Nat.le_refl _), List.getD_eq_getElem?_getD, List.getElem?_append_right (by omega), hl, Nat.sub_self]
      rfl
  · unfold wr
    rw [if_neg (by omega)]
    exact h.hi q (by omega)
theorem Inv9.no {t : TK} {S j i : Nat} {w : Nat → Nat} (h : Inv9 t S j i w) (hj : j < t.n) (hb : S.testBit j = false) : Inv9 t S (j + 1) i w := by
  have hij := h.ij
  refine ⟨hj, by omega, ?_, fun q hq => ?_, fun q hq => h.hi q (by omega)⟩
  · rw [pickL_no hb]
    exact h.len
  · rw [pickL_no hb]
    exact h.lo q hq
theorem clr_row (t : TK) (S : Nat) (w : Nat → Nat) {a i b : Nat} {z : List SV} (ha : a = i) (hlo : ∀ q, q < i → w q = (TK.pickL S t.n).getD q 0) : ∀ k, k < i → selL (decide (a ≤ k ∧ k < b)) z (TF t (w k)) = TF t ((TK.pickL S t.n).getD k 0) := fun k hk => by
  rw [decide_eq_false (by omega), hlo k hk, selL_false]
def H9 (t : TK) (S : Nat) : SHeap := [some (.arr 5 (TK.pickL S t.n).length t.n (fun q => TF t ((TK.pickL S t.n).getD q 0))), some .dead, some (.roc [.int .u64 S])]
theorem t109 (t : TK) (hn : t.n ≤ 5) (S : Nat) (hS : S < 2 ^ 64) : CallP Try.prog 109 [.slice 0 5 0 t.n t.n, .fn (.func 110) [] [.ptr 1 0, .ptr 2 0]] (some (.arr 5 t.n t.n (TF t)) :: HC (-1) S) (Ret (.slice 0 5 0 (TK.pickL S t.n).length t.n) (H9 t S)) := by
  have c114 := t114 t hn S hS
  refine callR (E := E) E_ok Try.func109 rfl ?_
  (repeat' (first | exact ap | refine And.intro ?_ ?_))
  refine CallP.frame c114 [0, 1, 2] (by (repeat' (first | exact fp | refine And.intro ?_ ?_))) (apartB_ok rfl) rfl ?_
  rintro ce h' (⟨i0, hi0, hb0, hall, rfl, rfl⟩ | ⟨hall, rfl, rfl⟩)
  · refine ⟨ownB_ok rfl, ?_⟩
    all_goals (repeat' (first | exact ap | refine And.intro ?_ ?_))
    all_goals first | exact gd | skip
    all_goals intro h1
    all_goals first | exact absurd h1 (by decide) | (cases h1; done) | skip
    all_goals first | (exfalso; have := of_decide_eq_true h1; omega) | skip
    (repeat' (first | exact ap | refine And.intro ?_ ?_))
    all_goals first | exact om | skip
    refine loopP E_ok [0, 1] (fun g : Nat × Nat × (Nat → Nat) => [(5, .int .i64 g.2.1), (6, .int .i64 g.1)]) (fun g _ => some (.arr 5 t.n t.n (fun q => TF t (g.2.2 q))) :: HC ((g.1 : Nat) - 1) S) (fun g => Inv9 t S g.1 g.2.1 g.2.2) (fun g => t.n - g.1) (i0 + 1, i0, id) ⟨hi0, Nat.lt_succ_self i0, by rw [pickL_no hb0, pickL_all hall, List.length_range], fun q hq => by rw [pickL_no hb0, pickL_all hall, getD_range hq]; rfl, fun _ _ => rfl⟩ ?_ ?_
    · refine ent_tau [0, 1, 2] ⟨?_, by (repeat' (first | exact tm | refine And.intro ?_ ?_)), rfl⟩
      (repeat' (first | exact fp | refine And.intro ?_ ?_))
      exact congrArg (fun z => [SV.int .i64 z]) (show ((i0 : Nat) : Int) = ((i0 + 1 : Nat) : Int) - 1 by omega)
    rintro ⟨j, i, w⟩ hI
    simp only at hI
    refine And.intro ?_ (And.intro (fun hc => ?_) (fun hc => ?_))
    · (repeat' (first | exact ap | refine And.intro ?_ ?_))
    · have hlt : j < t.n := by
        have := of_decide_eq_true hc
        simp only at this
        omega
      have hij := hI.ij
      have ej := z1 j
      have ei := z1 i
      have c := t110 (t.bl (w (0 + ((j : Nat) : Int).toNat))) (t.bh (w (0 + ((j : Nat) : Int).toNat))) (t.hut (w (0 + ((j : Nat) : Int).toNat))) (t.dl (w (0 + ((j : Nat) : Int).toNat))) (t.dh (w (0 + ((j : Nat) : Int).toNat))) j (by omega) S hS
      cases hb : S.testBit j with
      | true =>
        rw [hb] at c
        (repeat' (first | exact ap | refine And.intro ?_ ?_))
        all_goals first | exact om | skip
        refine c.use [1, 2] ?_ (by (repeat' (first | exact fp | refine And.intro ?_ ?_))) rfl
        all_goals (repeat' (first | exact ap | refine And.intro ?_ ?_))
        all_goals first | exact gd | skip
        all_goals intro h1
        all_goals first | exact absurd h1 (by decide) | (cases h1; done) | skip
        (repeat' (first | exact ap | refine And.intro ?_ ?_))
        all_goals first | exact om | skip
        all_goals first | (simp only; omega) | exact u0 (by simp only; omega) | (show under none _; exact u0 (by simp only; omega)) | skip
        refine ⟨(j + 1, i + 1, wr w i j), hI.yes hlt hb, by simp only; omega, ?_⟩
        refine ent_tau [0, 1, 2] ⟨?_, by (repeat' (first | exact tm | refine And.intro ?_ ?_)), rfl⟩
        (repeat' (first | exact fp | refine And.intro ?_ ?_))
        all_goals first | exact congrArg (fun z => [SV.int .i64 z]) (show ((j : Nat) : Int) = ((j + 1 : Nat) : Int) - 1 by omega) | skip
        all_goals exact fun q _ => wr_row t w ei ej q
      | false =>
        rw [hb] at c
        (repeat' (first | exact ap | refine And.intro ?_ ?_))
        all_goals first | exact om | skip
        refine c.use [1, 2] ?_ (by (repeat' (first | exact fp | refine And.intro ?_ ?_))) rfl
        all_goals (repeat' (first | exact ap | refine And.intro ?_ ?_))
        all_goals first | exact gd | skip
        all_goals intro h1
        all_goals first | exact absurd h1 (by decide) | (cases h1; done) | skip
        (repeat' (first | exact ap | refine And.intro ?_ ?_))
        all_goals first | exact om | skip
        refine ⟨(j + 1, i, w), hI.no hlt hb, by simp only; omega, ?_⟩
        refine ent_tau [0, 1, 2] ⟨?_, by (repeat' (first | exact tm | refine And.intro ?_ ?_)), rfl⟩
        (repeat' (first | exact fp | refine And.intro ?_ ?_))
        all_goals exact congrArg (fun z => [SV.int .i64 z]) (show ((j : Nat) : Int) = ((j + 1 : Nat) : Int) - 1 by omega)
    · have e : j = t.n := by
        have := of_decide_eq_false hc
        simp only at this
        have := hI.jn
        omega
      subst e
      have hij := hI.ij
      have hlen := hI.len
      have hlo := hI.lo
      have ea : 0 + (if ((i : Nat) : Int).toNat = t.n then 0 else ((i : Nat) : Int).toNat) = i := by
        rw [Int.toNat_natCast, if_neg (by omega)]
        omega
      have ebn : i + (t.n - ((i : Nat) : Int).toNat) ≤ t.n := by omega
      rw [← ea] at ebn
      have hin : ((i : Nat) : Int) ≤ (t.n : Nat) := by omega
      have hrow := clr_row t S w (b := 0 + (if ((i : Nat) : Int).toNat = t.n then 0 else ((i : Nat) : Int).toNat) + (t.n - ((i : Nat) : Int).toNat)) (z := [SV.int .i64 0, SV.int .i64 0, SV.int .i64 0, SV.int .i64 0, SV.int .i64 0]) ea hlo
      (repeat' (first | exact ap | refine And.intro ?_ ?_))
      all_goals first | exact om | skip
      all_goals first | exact u0 hin | exact hin | (show _ ≤ t.n; rw [ea] at ebn ⊢; exact ebn) | exact ebn | skip
      refine Ent.trans (entCut (i := 0) (m' := i) (get' := fun q => TF t ((TK.pickL S t.n).getD q 0)) rfl (by omega) hrow) ?_
      rw [Int.toNat_natCast]
      unfold H9
      rw [← hlen]
      exact ent_tau [0, 1, 2] ⟨by (repeat' (first | exact fp | refine And.intro ?_ ?_)), by (repeat' (first | exact tm | refine And.intro ?_ ?_)), rfl⟩
  · refine ⟨ownB_ok rfl, ?_⟩
    have e := pickL_all hall
    have el : (TK.pickL S t.n).length = t.n := by rw [e, List.length_range]
    all_goals (repeat' (first | exact ap | refine And.intro ?_ ?_))
    all_goals first | exact gd | skip
    all_goals intro h1
    all_goals first | exact absurd h1 (by decide) | (cases h1; done) | skip
    (repeat' (first | exact ap | refine And.intro ?_ ?_))
    unfold H9
    rw [el]
    refine ent_tau [0, 1, 2] ⟨?_, by (repeat' (first | exact tm | refine And.intro ?_ ?_)), rfl⟩
    (repeat' (first | exact fp | refine And.intro ?_ ?_))
    all_goals exact fun q hq => congrArg (TF t) (by rw [e, getD_range hq])
end Go.Proofs.Ytioajogaghgipaa
/-
  Contract: ticket.only.
-/
namespace Go.Proofs.Ytioajogaghgipaa
open Go Go.Sy Tic
set_option linter.unusedSimpArgs false
set_option maxRecDepth 100000
set_option maxHeartbeats 4000000
attribute [local irreducible] CallP CodeP Ent YieldP
set_option maxHeartbeats 16000000

theorem cp_row (t : TK) : ∀ k, k < ((t.n : Nat) : Int).toNat → (fun k => selL (decide (0 ≤ k ∧ k < 0 + t.n.min ((t.n : Nat) : Int).toNat)) (TF t (0 + (k - 0))) ((fun _ => [SV.int .i64 0, SV.int .i64 0, SV.int .i64 0, SV.int .i64 0, SV.int .i64 0]) k)) k = TF t k := fun k hk => by
  have e : t.n.min ((t.n : Nat) : Int).toNat = t.n := by
    rw [Int.toNat_natCast]
    exact Nat.min_self _
  have e2 : 0 + (k - 0) = k := by omega
  simp only [e, e2]
  rw [decide_eq_true (by omega), selL_true]
theorem t91 (t : TK) (hn : t.n ≤ 5) (S : Nat) (hS : S < 2 ^ 64) : CallP Try.prog 91 [TA t, .int .u64 S] (TH t) (Ret (.agg [.int .i64 t.huts, .slice 1 5 0 (t.only S).n t.n]) (TH t ++ [some (.arr 5 (t.only S).n t.n (TF (t.only S)))])) := by
  have c := t109 t hn S hS
  refine callR (E := E) E_ok Try.func91 rfl ?_
  (repeat' (first | exact ap | refine And.intro ?_ ?_))
  all_goals first | exact om | skip
  · exact fun _ _ => rfl
  · show (40 : Int) * ((t.n : Nat) : Int) ≤ _
    omega
  refine c.use [4, 5, 2] ?_ (by
    (repeat' (first | exact fp | refine And.intro ?_ ?_))
    all_goals exact cp_row t) rfl
  (repeat' (first | exact ap | refine And.intro ?_ ?_))
  all_goals first | exact om | skip
  refine ent_tau [0, 4] ⟨?_, ?_, rfl⟩
  · (repeat' (first | exact fp | refine And.intro ?_ ?_))
  · (repeat' (first | exact tm | refine And.intro ?_ ?_))
/-- Truths of some tickets, by what was made of them. -/
theorem only_valid {t : TK} (hv : t.Valid) (S : Nat) : (t.only S).Valid := by
  refine ⟨hv.1, Nat.le_trans (pickL_len S t.n) hv.2.1, fun i hi => ?_⟩
  exact hv.2.2 _ (TK.mem_pickL.1 (TK.getD_mem hi)).1
end Go.Proofs.Ytioajogaghgipaa
/-
  Plain law: whose turn it is, by what is known of those who wait.
-/
namespace Go.Proofs.Ytioajogaghgipaa
open Go Go.Sy Tic
set_option maxRecDepth 100000

theorem gget_gset (m : GL) (k v k' : List Int) : (gget (gset m k v) k').map (·.2) = if k' = k then some v else (gget m k').map (·.2) := by
  induction m with
  | nil =>
    simp only [gset, gget, List.nil_append]
    by_cases h : k' = k
    · rw [if_pos h, if_pos h.symm]; rfl
    · rw [if_neg h, if_neg (fun e => h e.symm)]
  | cons p m ih =>
    obtain ⟨a, b⟩ := p
    unfold gset at ih ⊢
    simp only [gget]
    by_cases h : a = k
    · rw [if_pos h]
      simp only [List.set_cons_zero, gget]
      by_cases h2 : k' = k
      · rw [if_pos h2, if_pos h2.symm]; rfl
      · rw [if_neg h2, if_neg (fun e => h2 e.symm), if_neg (fun e => h2 (e.symm.trans h))]
    · rw [if_neg h]
      cases hg : gget m k with
      | none =>
        rw [hg] at ih
        simp only [List.cons_append, gget] at ih ⊢
        by_cases h2 : a = k'
        · rw [if_pos h2, if_pos h2, if_neg (fun e => h (h2.trans e))]
        · rw [if_neg h2, if_neg h2]
          cases h3 : gget (m ++ [(k, v)]) k' with
          | none =>
            rw [h3] at ih
            cases h4 : gget m k' with
            | none => rw [h4] at ih; simpa using ih
            | some q' => rw [h4] at ih; simpa using ih
          | some q =>
            rw [h3] at ih
            cases h4 : gget m k' with
            | none => rw [h4] at ih; simpa using ih
            | some q' => rw [h4] at ih; simpa using ih
      | some q =>
        rw [hg] at ih
        simp only [List.set_cons_succ, gget] at ih ⊢
        by_cases h2 : a = k'
        · rw [if_pos h2, if_pos h2, if_neg (fun e => h (h2.trans e))]
        · rw [if_neg h2, if_neg h2]
          cases h3 : gget (m.set q.1 (k, v)) k' with
          | none =>
            rw [h3] at ih
            cases h4 : gget m k' with
            | none => rw [h4] at ih; simpa using ih
            | some q' => rw [h4] at ih; simpa using ih
          | some q2 =>
            rw [h3] at ih
            cases h4 : gget m k' with
            | none => rw [h4] at ih; simpa using ih
            | some q' => rw [h4] at ih; simpa using ih
/-- Those who wait, and nobody else. -/
def kp (x : Tru) (m : Int) (n j : Nat) : Int × Int := match decide (j < n) && inI m (x j).1 (x j).2 with
  | true => x j
  | false => (-1, -1)
def keyI (x : Tru) (m : Int) (n : Nat) : List Int := [(kp x m n 0).1, (kp x m n 0).2, (kp x m n 1).1, (kp x m n 1).2, (kp x m n 2).1, (kp x m n 2).2, (kp x m n 3).1, (kp x m n 3).2, (kp x m n 4).1, (kp x m n 4).2]
theorem keyI_inj {x y : Tru} {m : Int} {n : Nat} (e : keyI x m n = keyI y m n) : ∀ j, j < 5 → kp x m n j = kp y m n j := by
  unfold keyI at e
  simp only [List.cons.injEq, and_true] at e
  obtain ⟨a0, b0, a1, b1, a2, b2, a3, b3, a4, b4⟩ := e
  intro j hj
  match j, hj with
  | 0, _ => exact Prod.ext a0 b0
  | 1, _ => exact Prod.ext a1 b1
  | 2, _ => exact Prod.ext a2 b2
  | 3, _ => exact Prod.ext a3 b3
  | 4, _ => exact Prod.ext a4 b4
/-- What comes of those who wait is the same. -/
theorem now_key {x y : Tru} {m : Int} {n : Nat} (hn : n ≤ 5) (hx : ∀ i, i < n → 0 ≤ (x i).1) (hy : ∀ i, i < n → 0 ≤ (y i).1) (e : keyI x m n = keyI y m n) : ∀ k, k ≤ n → now x m k = now y m k := by
  have hk := keyI_inj e
  have hw : ∀ i, i < n → inI m (x i).1 (x i).2 = inI m (y i).1 (y i).2 ∧ (inI m (x i).1 (x i).2 = true → x i = y i) := fun i hi => by
    have h := hk i (by omega)
    unfold kp at h
    rw [decide_eq_true hi, Bool.true_and, Bool.true_and] at h
    have h1 := hx i hi
    have h2 := hy i hi
    cases ha : inI m (x i).1 (x i).2 <;> cases hb : inI m (y i).1 (y i).2 <;> rw [ha, hb] at h <;> simp only at h
    · exact ⟨rfl, fun h => by cases h⟩
    · rw [← h] at h2
      exact absurd h2 (by decide)
    · rw [h] at h1
      exact absurd h1 (by decide)
    · exact ⟨rfl, fun _ => h⟩
  intro k
  induction k with
  | zero => intro _; rfl
  | succ k ih =>
    intro hkn
    have ihk := ih (by omega)
    obtain ⟨w1, w2⟩ := hw k (by omega)
    have hr := now_rng y m k
    rw [now, now, ihk, ← w1]
    cases hb : inI m (x k).1 (x k).2 with
    | false => rfl
    | true =>
      have hxy := w2 hb
      rw [Bool.true_and]
      by_cases h0 : now y m k < 0
      · rw [decide_eq_true h0]
        rfl
      · rw [decide_eq_false h0, Bool.false_or, Bool.false_or]
        obtain ⟨f, hf⟩ : ∃ f : Nat, now y m k = (f : Nat) := ⟨(now y m k).toNat, by omega⟩
        have hin := now_in hf
        obtain ⟨v1, v2⟩ := hw f (by omega)
        have hfx := v2 (by rw [v1]; exact hin.2)
        have hbe : before x k (now y m k).toNat = before y k (now y m k).toNat := by
          rw [hf, Int.toNat_natCast]
          unfold before
          rw [hxy, hfx]
        rw [hbe]
        rfl
/-- What is kept of the truths that were seen. -/
abbrev Wh := GL × Nat × Bool
def seenB (L : GL) (k : List Int) : Bool := !decide ((gval 1 L k).headD 0 = 0)
def stW (m : Int) (n : Nat) (g : Wh) (x : Tru) : Wh := match seenB g.1 (keyI x m n) with
  | true => g
  | false => (gset g.1 (keyI x m n) [1], match decide (now x m n < 0) with
    | true => (g.2.1, true)
    | false => (g.2.1 % 32 ||| 2 ^ (now x m n).toNat, g.2.2))
theorem seenB_get (L : GL) (k : List Int) : seenB L k = match (gget L k).map (·.2) with
    | some v => !decide (v.headD 0 = 0)
    | none => false := by
  unfold seenB gval
  cases gget L k with
  | none => rfl
  | some q => rfl
theorem seenB_set (L : GL) (k k' : List Int) : seenB (gset L k [1]) k' = (decide (k' = k) || seenB L k') := by
  rw [seenB_get, seenB_get, gget_gset]
  by_cases h : k' = k
  · rw [if_pos h, decide_eq_true h]
    rfl
  · rw [if_neg h, decide_eq_false h]
    rfl
structure InvW (m : Int) (n : Nat) (l : List Tru) (g : Wh) : Prop where
  lt : g.2.1 < 2 ^ n
  bit : ∀ i, i < n → (g.2.1.testBit i = true ↔ ∃ x ∈ l, now x m n = (i : Nat))
  non : g.2.2 = true ↔ ∃ x ∈ l, now x m n = -1
  key : ∀ k, seenB g.1 k = true ↔ ∃ x ∈ l, keyI x m n = k
theorem InvW.step {m : Int} {n : Nat} (hn : n ≤ 5) {l : List Tru} {g : Wh} (h : InvW m n l g) {x : Tru} (hb : ∀ y, y ∈ x :: l → ∀ i, i < n → 0 ≤ (y i).1) : InvW m n (l ++ [x]) (stW m n g x) := by
  have hr := now_rng x m n
  unfold stW
  cases hs : seenB g.1 (keyI x m n) with
  | true =>
    obtain ⟨y, hy, e⟩ := (h.key _).1 hs
    have en : now y m n = now x m n := now_key hn (hb y (List.mem_cons_of_mem _ hy)) (hb x List.mem_cons_self) e n (Nat.le_refl _)
    have ext : ∀ {q : Tru → Prop}, (q x → q y) → ((∃ z ∈ l ++ [x], q z) ↔ ∃ z ∈ l, q z) := fun {q} hq => by
      constructor
      · rintro ⟨z, hz, hqz⟩
        rcases List.mem_append.1 hz with hz | hz
        · exact ⟨z, hz, hqz⟩
        · rw [List.mem_singleton] at hz
          subst hz
          exact ⟨y, hy, hq hqz⟩
      · rintro ⟨z, hz, hqz⟩
        exact ⟨z, List.mem_append_left _ hz, hqz⟩
    exact ⟨h.lt, fun i hi => (h.bit i hi).trans (ext fun q => en.trans q).symm, h.non.trans (ext fun q => en.trans q).symm, fun k => (h.key k).trans (ext fun q => e.trans q).symm⟩
  | false =>
    have spl : ∀ {q : Tru → Prop}, (∃ z ∈ l ++ [x], q z) ↔ ((∃ z ∈ l, q z) ∨ q x) := fun {q} => by
      constructor
      · rintro ⟨z, hz, hqz⟩
        rcases List.mem_append.1 hz with hz | hz
        · exact .inl ⟨z, hz, hqz⟩
        · rw [List.mem_singleton] at hz
          subst hz
          exact .inr hqz
      · rintro (⟨z, hz, hqz⟩ | hqz)
        · exact ⟨z, List.mem_append_left _ hz, hqz⟩
        · exact ⟨x, List.mem_append_right _ List.mem_cons_self, hqz⟩
    have hk : ∀ k, seenB (gset g.1 (keyI x m n) [1]) k = true ↔ ∃ z ∈ l ++ [x], keyI z m n = k := fun k => by
      rw [seenB_set, Bool.or_eq_true, decide_eq_true_eq, h.key k, spl]
      exact ⟨fun hh => hh.elim (fun e => .inr e.symm) .inl, fun hh => hh.elim .inr fun e => .inl e.symm⟩
    by_cases h0 : now x m n < 0
    · rw [decide_eq_true h0]
      refine ⟨h.lt, fun i hi => ?_, ?_, hk⟩
      · rw [spl, h.bit i hi]
        exact ⟨.inl, fun hh => hh.elim id fun e => by omega⟩
      · rw [spl]
        exact ⟨fun _ => .inr (by omega), fun _ => rfl⟩
    · rw [decide_eq_false h0]
      obtain ⟨f, hf⟩ : ∃ f : Nat, now x m n = (f : Nat) := ⟨(now x m n).toNat, by omega⟩
      have h32 : 2 ^ n ≤ 2 ^ 5 := Nat.pow_le_pow_right (by omega) hn
      have hlt := h.lt
      have hmod : g.2.1 % 32 = g.2.1 := Nat.mod_eq_of_lt (by omega)
      rw [hf, Int.toNat_natCast]
      have hfn : f < n := by omega
      simp only [hmod]
      refine ⟨Nat.or_lt_two_pow h.lt (Nat.pow_lt_pow_right (by omega) hfn), fun i hi => ?_, ?_, hk⟩
      · rw [spl, Nat.testBit_or, Bool.or_eq_true, h.bit i hi, Nat.testBit_two_pow]
        simp only [decide_eq_true_eq]
        exact or_congr Iff.rfl ⟨fun e => by rw [hf, e], fun e => by omega⟩
      · rw [spl]
        exact h.non.trans ⟨.inl, fun hh => hh.elim id fun e => by omega⟩
theorem foldW {m : Int} {n : Nat} (hn : n ≤ 5) : ∀ (l l0 : List Tru) (g : Wh), InvW m n l0 g → (∀ y, y ∈ l0 ++ l → ∀ i, i < n → 0 ≤ (y i).1) → InvW m n (l0 ++ l) (l.foldl (stW m n) g)
  | [], l0, g, h, _ => by rw [List.append_nil]; exact h
  | x :: l, l0, g, h, hb => by
    have := foldW hn l (l0 ++ [x]) _ (h.step hn (x := x) fun y hy => hb y (by
      rcases List.mem_cons.1 hy with rfl | hy
      · exact List.mem_append_right _ List.mem_cons_self
      · exact List.mem_append_left _ hy)) (fun y hy => hb y (by rw [List.append_assoc] at hy; exact hy))
    rw [List.append_assoc] at this
    exact this
theorem inv0W (m : Int) (n : Nat) : InvW m n [] ([], 0, false) := by
  refine ⟨Nat.pow_pos (by decide), fun i hi => ?_, ?_, fun k => ?_⟩
  · simp
  · simp
  · simp [seenB, gval, gget]
theorem whose_fold {t : TK} (hv : t.Valid) (m : Int) : ((t.trP t.ordL).foldl (stW m t.n) ([], 0, false)).2 = (t.whose m, t.nobody m) := by
  have hm : ∀ x, x ∈ t.trP t.ordL ↔ x ∈ t.trs := fun x => TK.mem_trP (TK.ordL_ok t)
  have h := foldW hv.2.1 (t.trP t.ordL) [] _ (inv0W m t.n) (fun y hy i hi => (trs_bnd2 hv ((hm y).1 hy) i hi).1.1)
  rw [List.nil_append] at h
  refine Prod.ext ?_ ?_
  · refine set_eq h.lt (TK.whose_lt m) fun i hi => ?_
    rw [Bool.eq_iff_iff, h.bit i hi, TK.whose_bit]
    exact ⟨fun ⟨x, hx, e⟩ => ⟨hi, x, (hm x).1 hx, e⟩, fun ⟨_, x, hx, e⟩ => ⟨x, (hm x).2 hx, e⟩⟩
  · rw [Bool.eq_iff_iff, h.non]
    show _ ↔ t.nobody m = true
    unfold TK.nobody
    simp only [List.any_eq_true, decide_eq_true_eq]
    exact ⟨fun ⟨x, hx, e⟩ => ⟨x, (hm x).1 hx, e⟩, fun ⟨x, hx, e⟩ => ⟨x, (hm x).2 hx, e⟩⟩
end Go.Proofs.Ytioajogaghgipaa
