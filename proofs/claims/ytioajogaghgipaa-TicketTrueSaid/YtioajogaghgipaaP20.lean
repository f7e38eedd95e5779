/-
  Parts: B14, B15, B16w, B17w.
-/
import Derived.Test.YtioajogaghgipaaP19
set_option linter.unusedVariables false
/-
 Sets as signed numbers; how many a set has; what may be measured of a truth.
-/
namespace Go.Proofs.Ytioajogaghgipaa
open Go Go.Sy Tic
set_option linter.unusedSimpArgs false
set_option maxRecDepth 100000
set_option maxHeartbeats 4000000
attribute [local irreducible] CallP CodeP Ent YieldP

theorem ofInt_nat (a : Nat) : BitVec.ofInt 64 (a : Int) = BitVec.ofNat 64 a := BitVec.ofInt_natCast 64 a
theorem wrap64 (x : Nat) (h : x < 2 ^ 63) : IntKind.wrap .i64 (x : Int) = x := wrap_in (k := .i64) ⟨by omega, by omega⟩
theorem or64 {a b : Nat} (ha : a < 2 ^ 63) (hb : b < 2 ^ 63) : bitOp .or .i64 (a : Int) (b : Int) = ((a ||| b : Nat) : Int) := by
 show IntKind.wrap .i64 ((BitVec.ofInt 64 (a : Int) ||| BitVec.ofInt 64 (b : Int)).toNat : Int) = _
 rw [ofInt_nat, ofInt_nat, BitVec.toNat_or, BitVec.toNat_ofNat, BitVec.toNat_ofNat, Nat.mod_eq_of_lt (by omega), Nat.mod_eq_of_lt (by omega)]
 exact wrap64 _ (Nat.or_lt_two_pow ha hb)
theorem and64 {a b : Nat} (ha : a < 2 ^ 63) (hb : b < 2 ^ 64) : bitOp .and .i64 (a : Int) (b : Int) = ((a &&& b : Nat) : Int) := by
 show IntKind.wrap .i64 ((BitVec.ofInt 64 (a : Int) &&& BitVec.ofInt 64 (b : Int)).toNat : Int) = _
 rw [ofInt_nat, ofInt_nat, BitVec.toNat_and, BitVec.toNat_ofNat, BitVec.toNat_ofNat, Nat.mod_eq_of_lt (by omega), Nat.mod_eq_of_lt hb]
 exact wrap64 _ (Nat.lt_of_le_of_lt Nat.and_le_left ha)
theorem pow_int (k : Nat) : (1 : Int) * 2 ^ ((k : Nat) : Int).toNat = ((2 ^ k : Nat) : Int) := by
 rw [Int.toNat_natCast, Int.one_mul]
 norm_cast
def un2 (S T : Nat) : Nat → List SV := fun k => [.int .i64 ((match k with | 0 => S | _ => T : Nat) : Int)]
def or2 (S T : Nat) : Nat → Nat
 | 0 => 0
 | 1 => S
 | _ => S ||| T
theorem t62 (S T : Nat) (hS : S < 2 ^ 63) (hT : T < 2 ^ 63) : CallP Try.prog 62 [.slice 0 1 0 2 2] [some (.roa 1 2 (un2 S T))] (Ret (.int .i64 (S ||| T : Nat)) [some (.roa 1 2 (un2 S T))]) := by
 refine callR (E := E) E_ok Try.func62 rfl ?_
 refine And.intro ?_ ?_
 ·simp [AllP, under, gB, wB, inR_iff, IntKind.bits]
 refine loopP E_ok [0, 5, 6] (fun i : Nat => [(2, .int .i64 (or2 S T i : Nat)), (7, .int .i64 i)]) (fun _ h => h) (fun i => i ≤ 2) (fun i => 2 - i) 0 (Nat.zero_le _) ?_ ?_
 ·exact ent_tau [0] ⟨by (repeat' first|exact fp|refine aN ?_ ?_), by (repeat' first|exact tm|refine aN ?_ ?_), rfl⟩
 rintro i hi
 refine And.intro ?_ (And.intro (fun hc => ?_) (fun hc => ?_))
 ·simp [AllP, under, gB, wB, inR_iff, IntKind.bits]
 ·have hlt : i < 2 := by
   have := of_decide_eq_true hc
   omega
  have hc2 : i = 0 ∨ i = 1 := by omega
  rcases hc2 with rfl | rfl
  ·refine And.intro ?_ ?_
   ·simp [AllP, under, gB, wB, inR_iff, IntKind.bits]
   refine ⟨1, by omega, by omega, ?_⟩
   refine ent_tau [0] ⟨by (repeat' first|exact fp|refine aN ?_ ?_), ?_, rfl⟩
   (repeat' first|exact tm|refine aN ?_ ?_)
   exact congrArg (SV.int .i64) ((or64 (a := 0) (b := S) (by decide) hS).trans (by rw [Nat.zero_or]; rfl))
  ·refine And.intro ?_ ?_
   ·simp [AllP, under, gB, wB, inR_iff, IntKind.bits]
   refine ⟨2, by omega, by omega, ?_⟩
   refine ent_tau [0] ⟨by (repeat' first|exact fp|refine aN ?_ ?_), ?_, rfl⟩
   (repeat' first|exact tm|refine aN ?_ ?_)
   exact congrArg (SV.int .i64) (or64 hS hT)
 ·have e : i = 2 := by
   have := of_decide_eq_false hc
   omega
  subst e
  (repeat' first|exact ap|refine aN ?_ ?_)
  exact ent_tau [0] ⟨by (repeat' first|exact fp|refine aN ?_ ?_), by (repeat' first|exact tm|refine aN ?_ ?_), rfl⟩
def oc1 (x : Int) : Int := IntKind.wrap .u64 (bitOp .and .u64 (x.fdiv (2 ^ (1 : Int).toNat)) 6148914691236517205 + bitOp .and .u64 x 6148914691236517205)
def oc2 (x : Int) : Int := IntKind.wrap .u64 (bitOp .and .u64 (x.fdiv (2 ^ (2 : Int).toNat)) 3689348814741910323 + bitOp .and .u64 x 3689348814741910323)
def oc3 (x : Int) : Int := bitOp .and .u64 (IntKind.wrap .u64 (x.fdiv (2 ^ (4 : Int).toNat) + x)) 1085102592571150095
def oc4 (x : Int) : Int := IntKind.wrap .u64 (x + x.fdiv (2 ^ (8 : Int).toNat))
def oc5 (x : Int) : Int := IntKind.wrap .u64 (x + x.fdiv (2 ^ (16 : Int).toNat))
def oc6 (x : Int) : Int := IntKind.wrap .u64 (x + x.fdiv (2 ^ (32 : Int).toNat))
def oc7 (x : Int) : Int := bitOp .and .i64 (IntKind.wrap .i64 x) 127
theorem t108 (x : Int) : CallP Try.prog 108 [.int .u64 x] [] (Ret (.int .i64 (oc7 (oc6 (oc5 (oc4 (oc3 (oc2 (oc1 x)))))))) []) := by
 refine callR (E := Ew) Ew_ok Try.func108 rfl ?_
 (repeat' first|exact ap|refine aN ?_ ?_)
 all_goals first | exact u0 (by decide) | skip
 exact ent_tau [] ⟨by (repeat' first|exact fp|refine aN ?_ ?_), by (repeat' first|exact tm|refine aN ?_ ?_), rfl⟩
theorem oc_ok : ∀ S : Fin 33, oc7 (oc6 (oc5 (oc4 (oc3 (oc2 (oc1 ((S : Nat) : Int))))))) = (((if (S : Nat) = 32 then 1 else TK.pop S) : Nat) : Int) := by decide +kernel
theorem t108p (S : Nat) (hS : S < 32) : CallP Try.prog 108 [.int .u64 S] [] (Ret (.int .i64 (TK.pop S : Nat)) []) := by
 have := t108 (S : Int)
 have e := oc_ok ⟨S, by omega⟩
 simp only at e
 rw [if_neg (by omega)] at e
 rw [e] at this
 exact this
theorem t84 (S : Nat) (hS : S < 32) : CallP Try.prog 84 [.int .u64 S] [] (Ret (.int .i64 (TK.pop S : Nat)) []) := by
 refine callR (E := E) E_ok Try.func84 rfl ?_
 (repeat' first|exact ap|refine aN ?_ ?_)
 ·exact fun h => absurd h (by decide)
 intro _
 (repeat' first|exact ap|refine aN ?_ ?_)
 refine (t108p S hS).use [] ?_ (by (repeat' first|exact fp|refine aN ?_ ?_)) rfl
 (repeat' first|exact ap|refine aN ?_ ?_)
 exact ent_tau [] ⟨by (repeat' first|exact fp|refine aN ?_ ?_), by (repeat' first|exact tm|refine aN ?_ ?_), rfl⟩

/-! ### What may be measured of a truth -/
theorem tr_at (x : Tru) {a m : Nat} (h : a < 5) (hm : m = a * 2) : (trI x).getD m 0 = (x a).1 := by
 subst hm
 match a, h with
 | 0, _ => rfl
 | 1, _ => rfl
 | 2, _ => rfl
 | 3, _ => rfl
 | 4, _ => rfl
theorem tr_bt (x : Tru) {a m : Nat} (h : a < 5) (hm : m = a * 2 + 1) : (trI x).getD m 0 = (x a).2 := by
 subst hm
 match a, h with
 | 0, _ => rfl
 | 1, _ => rfl
 | 2, _ => rfl
 | 3, _ => rfl
 | 4, _ => rfl
theorem t51 (x : Tru) (i : Nat) (hi : i < 5) : CallP Try.prog 51 [.agg (trV x), .ptr 0 0] [some (.roc [.int .i64 i])] (Ret (.int .i64 (x i).1) [some (.roc [.int .i64 i])]) := by
 have e := tr_a x hi (0 + 0) rfl
 refine callR (E := E) E_ok Try.func51 rfl ?_
 (repeat' first|exact ap|refine aN ?_ ?_)
 all_goals first | exact om | skip
 ·exact u0 (show ((i : Nat) : Int).toNat * 2 + (0 + 1) ≤ 10 by omega)
 refine ent_tau [0] ⟨by (repeat' first|exact fp|refine aN ?_ ?_), ⟨rfl, ?_, trivial⟩, rfl⟩
 exact congrArg (SV.int .i64) e
theorem t52 (x : Tru) (i : Nat) (hi : i < 5) : CallP Try.prog 52 [.agg (trV x), .ptr 0 0] [some (.roc [.int .i64 i])] (Ret (.int .i64 (x i).2) [some (.roc [.int .i64 i])]) := by
 have e := tr_b x hi (0 + 1 + 0) rfl
 refine callR (E := E) E_ok Try.func52 rfl ?_
 (repeat' first|exact ap|refine aN ?_ ?_)
 all_goals first | exact om | skip
 ·exact u0 (show ((i : Nat) : Int).toNat * 2 + (0 + 1 + 1) ≤ 10 by omega)
 refine ent_tau [0] ⟨by (repeat' first|exact fp|refine aN ?_ ?_), ⟨rfl, ?_, trivial⟩, rfl⟩
 exact congrArg (SV.int .i64) e
def HB (t : TK) : SHeap := [some (.roa 5 t.n (TF t)), some (.roc (tb t))]
theorem max_if (a b : Int) : (if b > a then b else a) = max a b := by
 rw [Int.max_def]
 split <;> split <;> omega
theorem t79 (t : TK) (hn : t.n ≤ 5) (x : Tru) (hx : ∀ i, i < t.n → (0 ≤ (x i).1 ∧ (x i).1 ≤ 240) ∧ 0 ≤ (x i).2 ∧ (x i).2 ≤ 240) : CallP Try.prog 79 [.agg (trV x), .ptr 1 0] (HB t) (Ret (.int .i64 (TK.longest x t.n)) (HB t)) := by
 refine callR (E := E) E_ok Try.func79 rfl ?_
 (repeat' first|exact ap|refine aN ?_ ?_)
 all_goals first | exact om | skip
 refine loopP E_ok [1, 3, 10, 11] (fun i : Nat => [(4, .int .i64 (TK.longest x i)), (12, .int .i64 i)]) (fun _ H => H) (fun i => i ≤ t.n) (fun i => t.n - i) 0 (Nat.zero_le _) ?_ ?_
 ·exact ent_tau [0, 1, 2] ⟨by (repeat' first|exact fp|refine aN ?_ ?_), by (repeat' first|exact tm|refine aN ?_ ?_), rfl⟩
 rintro i hi
 refine And.intro ?_ (And.intro (fun hc => ?_) (fun hc => ?_))
 ·(repeat' first|exact ap|refine aN ?_ ?_)
 ·have hlt : i < t.n := by
   have := of_decide_eq_true hc
   omega
  have hxi := hx i hlt
  have ea := tr_at x (a := i) (m := (0 + ((i : Nat) : Int).toNat) * 2 + (0 + 0)) (by omega) (by omega)
  have eb := tr_bt x (a := i) (m := (0 + ((i : Nat) : Int).toNat) * 2 + (0 + 1)) (by omega) (by omega)
  have hL : (0 + ((i : Nat) : Int).toNat) * 2 + (0 + 2) ≤ 10 := by omega
  have hI : InR .i64 ((trI x).getD ((0 + ((i : Nat) : Int).toNat) * 2 + (0 + 1)) 0 - (trI x).getD ((0 + ((i : Nat) : Int).toNat) * 2 + (0 + 0)) 0) := by
   rw [ea, eb]
   exact (inR_iff _).2 ⟨by omega, by omega⟩
  (repeat' first|exact ap|refine aN ?_ ?_)
  all_goals first | exact om | skip
  all_goals first | exact hI.1 | exact hI.2 | exact hL | exact u0 hL | skip
  refine ⟨i + 1, by omega, by omega, ?_⟩
  refine ent_tau [0, 1, 2] ⟨by (repeat' first|exact fp|refine aN ?_ ?_), ?_, rfl⟩
  (repeat' first|exact tm|refine aN ?_ ?_)
  refine congrArg (SV.int .i64) ?_
  rw [TK.longest, ← max_if]
  show (if (trI x).getD ((0 + ((i : Nat) : Int).toNat) * 2 + (0 + 1)) 0 - (trI x).getD ((0 + ((i : Nat) : Int).toNat) * 2 + (0 + 0)) 0 > TK.longest x i then (trI x).getD ((0 + ((i : Nat) : Int).toNat) * 2 + (0 + 1)) 0 - (trI x).getD ((0 + ((i : Nat) : Int).toNat) * 2 + (0 + 0)) 0 else TK.longest x i) = _
  rw [ea, eb]
 ·have e : i = t.n := by
   have := of_decide_eq_false hc
   omega
  subst e
  (repeat' first|exact ap|refine aN ?_ ?_)
  exact ent_tau [0, 1] ⟨by (repeat' first|exact fp|refine aN ?_ ?_), by (repeat' first|exact tm|refine aN ?_ ?_), rfl⟩
theorem unF {A B : Int} {S T : Nat} (hA : A = S) (hB : B = T) : ∀ k, k < 2 → getOf 1 [.int .i64 A, .int .i64 B] k = un2 S T k
 | 0, _ => by rw [hA, hB]; rfl
 | 1, _ => by rw [hA, hB]; rfl
 | k + 2, h => by omega
theorem two_eq {a b a' b' : Int} (h1 : a = a') (h2 : b = b') : [SV.int .i64 a, SV.int .i64 b] = [SV.int .i64 a', SV.int .i64 b'] := by rw [h1, h2]
theorem t82 (t : TK) (hv : t.Valid) (x : Tru) (hx : ∀ i, i < t.n → 0 ≤ (x i).2 ∧ (x i).2 ≤ 240) : CallP Try.prog 82 [.agg (trV x), .ptr 1 0] (HB t) (Ret (.int .i64 (t.mostF x t.n)) (HB t)) := by
 have hn := hv.2.1
 refine callR (E := E) E_ok Try.func82 rfl ?_
 (repeat' first|exact ap|refine aN ?_ ?_)
 all_goals first | exact om | skip
 refine loopP E_ok [1, 2, 3, 13, 14] (fun i : Nat => [(4, .int .i64 (t.mostF x i)), (15, .int .i64 i)]) (fun _ H => H) (fun i => i ≤ t.n) (fun i => t.n - i) 0 (Nat.zero_le _) ?_ ?_
 ·exact ent_tau [0, 1, 2] ⟨by (repeat' first|exact fp|refine aN ?_ ?_), by (repeat' first|exact tm|refine aN ?_ ?_), rfl⟩
 rintro i hi
 refine And.intro ?_ (And.intro (fun hc => ?_) (fun hc => ?_))
 ·(repeat' first|exact ap|refine aN ?_ ?_)
 ·have hlt : i < t.n := by
   have := of_decide_eq_true hc
   omega
  have hL : (0 + ((i : Nat) : Int).toNat) * 2 + (0 + 2) ≤ 10 := by omega
  have ea := tr_at x (a := i) (m := (0 + ((i : Nat) : Int).toNat) * 2 + 0) (by omega) (by omega)
  have eb := tr_bt x (a := i) (m := (0 + ((i : Nat) : Int).toNat) * 2 + (0 + 1)) (by omega) (by omega)
  (repeat' first|exact ap|refine aN ?_ ?_)
  all_goals first | exact om | skip
  all_goals first | exact hL | exact u0 hL | skip
  refine loopP E_ok [1, 2, 3, 4, 6, 13, 14, 15, 20, 21] (fun k : Nat => [(7, .int .i64 (hutM t x (x i).2 k : Nat)), (22, .int .i64 k)]) (fun _ _ => HB t ++ [some (.cells (trV x)), some (.cells [.int .i64 (x i).1, .int .i64 (x i).2])]) (fun k => k ≤ t.n) (fun k => t.n - k) 0 (Nat.zero_le _) ?_ ?_
  ·refine ent_tau [0, 1, 2, 3] ⟨?_, by (repeat' first|exact tm|refine aN ?_ ?_), rfl⟩
   (repeat' first|exact fp|refine aN ?_ ?_)
   exact two_eq ea eb
  rintro k hk
  refine And.intro ?_ (And.intro (fun hck => ?_) (fun hck => ?_))
  ·(repeat' first|exact ap|refine aN ?_ ?_)
  ·have hlk : k < t.n := by
    have := of_decide_eq_true hck
    omega
   have ok := (hv.2.2 k hlk).1
   have h4 := hv.1
   have hml := TK.hutM_lt hv x (x i).2 k hk
   have hst : hutM t x (x i).2 (k + 1) = if inI ((x i).2 - (x k).2) 0 29 then hutM t x (x i).2 k ||| 2 ^ (t.hut k).toNat else hutM t x (x i).2 k := rfl
   have c := t83 ((trI x).getD (((k : Nat) : Int).toNat * 2 + 0) 0) ((trI x).getD (((k : Nat) : Int).toNat * 2 + (0 + 1)) 0) (x i).2 (by
    rw [tr_bt x (a := k) (by omega) (by omega)]
    have h1 := hx i hlt
    have h2 := hx k hlk
    exact (inR_iff _).2 ⟨by omega, by omega⟩)
   have hLk : ((k : Nat) : Int).toNat * 2 + (0 + 2) ≤ 10 := by omega
   obtain ⟨B, hB⟩ : ∃ B, inI ((x i).2 - (x k).2) 0 29 = B := ⟨_, rfl⟩
   have hB2 : inI ((x i).2 - (trI x).getD (((k : Nat) : Int).toNat * 2 + (0 + 1)) 0) 0 29 = B := by
    rw [tr_bt x (a := k) (by omega) (by omega)]
    exact hB
   rw [hB2] at c
   rw [hB] at hst
   (repeat' first|exact ap|refine aN ?_ ?_)
   all_goals first | exact om | skip
   refine drawP E_ok [2, 3] pl82_9 (by kernel_rfl) ?_
   (repeat' first|exact ap|refine aN ?_ ?_)
   all_goals first | exact om | skip
   all_goals first | exact hLk | exact u0 hLk | skip
   refine c.use [] ?_ trivial rfl
   cases B
   ·all_goals (repeat' first|exact ap|refine aN ?_ ?_)
    all_goals first | exact gd | skip
    all_goals intro h1
    all_goals first | exact absurd h1 (by decide) | (cases h1; done) | skip
    (repeat' first|exact ap|refine aN ?_ ?_)
    all_goals first | exact om | skip
    refine ⟨k + 1, by omega, by omega, ?_⟩
    refine ent_tau [0, 1, 2, 3] ⟨by (repeat' first|exact fp|refine aN ?_ ?_), ?_, rfl⟩
    (repeat' first|exact tm|refine aN ?_ ?_)
    exact congrArg (fun z : Nat => SV.int .i64 z) hst.symm
   ·obtain ⟨u, hu⟩ : ∃ u : Nat, t.hut k = u := ⟨(t.hut k).toNat, by omega⟩
    have ek := z1 k
    have pk : (1 : Int) * 2 ^ (t.hut (0 + ((k : Nat) : Int).toNat)).toNat = ((2 ^ u : Nat) : Int) := by rw [ek, hu]; exact pow_int u
    have p2 : 2 ^ u < 2 ^ 4 := Nat.pow_lt_pow_right (by omega) (by omega)
    have h0 : 0 ≤ t.hut (0 + ((k : Nat) : Int).toNat) := by rw [ek]; omega
    have h64 : t.hut (0 + ((k : Nat) : Int).toNat) < ((IntKind.bits .i64 : Nat) : Int) := lt64 (by rw [ek]; have := hv.1; omega)
    have pa : -9223372036854775808 ≤ (1 : Int) * 2 ^ (t.hut (0 + ((k : Nat) : Int).toNat)).toNat := by rw [pk]; exact Int.le_trans (by decide) (Int.natCast_nonneg _)
    have pb : (1 : Int) * 2 ^ (t.hut (0 + ((k : Nat) : Int).toNat)).toNat ≤ 9223372036854775807 := by rw [pk]; omega
    have hf := unF (A := ((hutM t x (x i).2 k : Nat) : Int)) rfl pk
    have eu : (t.hut k).toNat = u := by omega
    rw [eu] at hst
    all_goals (repeat' first|exact ap|refine aN ?_ ?_)
    all_goals first | exact gd | skip
    all_goals intro h1
    all_goals first | exact absurd h1 (by decide) | (cases h1; done) | skip
    (repeat' first|exact ap|refine aN ?_ ?_)
    all_goals first | exact om | skip
    all_goals first | exact pa | exact pb | exact u0 h0 | exact u0 h64 | skip
    refine (t62 (hutM t x (x i).2 k) (2 ^ u) (Nat.lt_trans hml (by decide)) (Nat.lt_trans p2 (by decide))).use [5] ?_ (by (first | exact ⟨⟨rfl, rfl, hf⟩, trivial⟩ | exact ⟨⟨rfl, rfl, fun k hk => hf k hk⟩, trivial⟩)) rfl
    (repeat' first|exact ap|refine aN ?_ ?_)
    all_goals first | exact om | skip
    refine ⟨k + 1, by omega, by omega, ?_⟩
    refine ent_tau [0, 1, 2, 3] ⟨by (repeat' first|exact fp|refine aN ?_ ?_), ?_, rfl⟩
    (repeat' first|exact tm|refine aN ?_ ?_)
    exact congrArg (fun z : Nat => SV.int .i64 z) hst.symm
  ·have e : k = t.n := by
    have := of_decide_eq_false hck
    omega
   subst e
   have hm := TK.hutM_pop hv x (x i).2
   have hml := TK.hutM_lt hv x (x i).2 t.n (Nat.le_refl _)
   have c := t84 (hutM t x (x i).2 t.n) (by omega)
   rw [hm] at c
   have hu5 := TK.usedN_le (t := t) x (x i).2
   have h4 := hv.1
   (repeat' first|exact ap|refine aN ?_ ?_)
   all_goals first | exact om | skip
   refine c.use [] ?_ trivial rfl
   (repeat' first|exact ap|refine aN ?_ ?_)
   all_goals first | exact om | skip
   refine ⟨i + 1, by omega, by omega, ?_⟩
   refine ent_tau [0, 1, 2] ⟨by (repeat' first|exact fp|refine aN ?_ ?_), ?_, rfl⟩
   (repeat' first|exact tm|refine aN ?_ ?_)
   refine congrArg (SV.int .i64) ?_
   rw [TK.mostF, ← max_if]
 ·have e : i = t.n := by
   have := of_decide_eq_false hc
   omega
  subst e
  (repeat' first|exact ap|refine aN ?_ ?_)
  exact ent_tau [0, 1] ⟨by (repeat' first|exact fp|refine aN ?_ ?_), by (repeat' first|exact tm|refine aN ?_ ?_), rfl⟩
def HR (t : TK) (bo : Bool) (co : Nat) : SHeap := HQ t bo co ++ [some (.roc (tb t)), some (.roc [.ptr 1 0])]
theorem t87 (t : TK) (hv : t.Valid) (bo : Bool) (co : Nat) (x : Tru) : CallP Try.prog 87 [.agg (trV x), .ptr 3 0, .ptr 4 0] (HR t bo co) (Ret (.int .i64 (t.odd x : Nat)) (HR t bo co)) := by
 have hn := hv.2.1
 refine callR (E := E) E_ok Try.func87 rfl ?_
 (repeat' first|exact ap|refine aN ?_ ?_)
 all_goals first | exact om | skip
 refine loopP E_ok [1, 2, 3, 9, 10] (fun i : Nat => [(5, .int .i64 (cntN (fun i => overs t.n x i) i : Nat)), (11, .int .i64 i)]) (fun _ H => H) (fun i => i ≤ t.n) (fun i => t.n - i) 0 (Nat.zero_le _) ?_ ?_
 ·exact ent_tau [0, 1, 2, 3, 4, 5] ⟨by (repeat' first|exact fp|refine aN ?_ ?_), by (repeat' first|exact tm|refine aN ?_ ?_), rfl⟩
 rintro i hi
 refine And.intro ?_ (And.intro (fun hc => ?_) (fun hc => ?_))
 ·(repeat' first|exact ap|refine aN ?_ ?_)
 ·have hlt : i < t.n := by
   have := of_decide_eq_true hc
   omega
  have hl := cntN_le (fun i => overs t.n x i) i
  have c := t137 t hv bo co x i 0 (by omega)
  have hs : cntN (fun i => overs t.n x i) (i + 1) = cntN (fun i => overs t.n x i) i + match overs t.n x i with | true => 1 | false => 0 := rfl
  unfold inTurn at c
  obtain ⟨B, hB⟩ : ∃ B, overs t.n x i = B := ⟨_, rfl⟩
  rw [hB] at c hs
  (repeat' first|exact ap|refine aN ?_ ?_)
  all_goals first | exact om | skip
  refine c.use [0, 1, 2] ?_ (by (repeat' first|exact fp|refine aN ?_ ?_)) rfl
  cases B
  ·all_goals (repeat' first|exact ap|refine aN ?_ ?_)
   all_goals first | exact gd | skip
   all_goals intro h1
   all_goals first | exact absurd h1 (by decide) | (cases h1; done) | skip
   (repeat' first|exact ap|refine aN ?_ ?_)
   all_goals first | exact om | skip
   refine ⟨i + 1, by omega, by omega, ?_⟩
   refine ent_tau [0, 1, 2, 3, 4, 5] ⟨by (repeat' first|exact fp|refine aN ?_ ?_), ?_, rfl⟩
   (repeat' first|exact tm|refine aN ?_ ?_)
   exact congrArg (fun z : Nat => SV.int .i64 z) hs.symm
  ·all_goals (repeat' first|exact ap|refine aN ?_ ?_)
   all_goals first | exact gd | skip
   all_goals intro h1
   all_goals first | exact absurd h1 (by decide) | (cases h1; done) | skip
   (repeat' first|exact ap|refine aN ?_ ?_)
   all_goals first | exact om | skip
   refine ⟨i + 1, by omega, by omega, ?_⟩
   refine ent_tau [0, 1, 2, 3, 4, 5] ⟨by (repeat' first|exact fp|refine aN ?_ ?_), ?_, rfl⟩
   (repeat' first|exact tm|refine aN ?_ ?_)
   exact congrArg (fun z : Nat => SV.int .i64 z) hs.symm
 ·have e : i = t.n := by
   have := of_decide_eq_false hc
   omega
  subst e
  (repeat' first|exact ap|refine aN ?_ ?_)
  exact ent_tau [0, 1, 2, 3, 4] ⟨by (repeat' first|exact fp|refine aN ?_ ?_), by (repeat' first|exact tm|refine aN ?_ ?_), rfl⟩
end Go.Proofs.Ytioajogaghgipaa
/-
 A truth is measured.
-/
namespace Go.Proofs.Ytioajogaghgipaa
open Go Go.Sy Tic
set_option linter.unusedSimpArgs false
set_option maxRecDepth 100000
set_option maxHeartbeats 4000000
attribute [local irreducible] CallP CodeP Ent YieldP

abbrev Ms := Bool × Int × Int
def seeS (g : Ms) (n : Int) : Ms := bif g.1 then (true, min g.2.1 n, max g.2.2 n) else (true, n, n)
def mrow (fv : SV) (g : Ms) : Nat → List SV := fun _ => [fv, .bool g.1, .int .i64 g.2.1, .int .i64 g.2.2]
def s2 {α : Type} (k : Nat) (a b : α) : α := match k with
 | 0 => a
 | _ => b
def mrow2 (p : Nat) (g h : Ms) : Nat → List SV := fun k => [.fn (.func (51 + k)) [] [.ptr p 0], .bool (s2 k g.1 h.1), .int .i64 (s2 k g.2.1 h.2.1), .int .i64 (s2 k g.2.2 h.2.2)]
def mrow2m (fv fw : SV) : Nat → List SV := fun k => match k with
 | 0 => [fv, .bool false, .int .i64 0, .int .i64 0]
 | _ => [fw, .bool false, .int .i64 0, .int .i64 0]
theorem min_if (a b : Int) : (if b < a then b else a) = min a b := by
 rw [Int.min_def]
 split <;> split <;> omega
def HW (t : TK) : SHeap := [some (.roa 5 t.n (TF t)), some (.roc [.int .i64 t.huts, .osl t.b 1 5 t.n t.cap])]
def HV (t : TK) (bo : Bool) (co : Nat) : SHeap := [some (.roa 5 t.n (TF t)), some (.roc [.int .i64 t.huts, .osl t.b 1 5 t.n t.cap, .osl bo 3 1 t.n co]), some (.roa 1 t.n (rowO (ord t))), some (.roc [.int .i64 t.huts, .osl t.b 1 5 t.n t.cap]), some (.roc [.ptr 2 0])]
def HM (i : Nat) : SHeap := [some (.roc [.int .i64 i])]
def pl101_4s : Plan := eg [0, 1, 2, 3, 4, 6, 8, 9, 10, 11, 13] <| .alt 5 (.eager 7 <| .alt 12 (eg [14, 15, 16, 17] <| .alt 18 (.done) .no) .no) (.alt 12 (.eager 14 <| .alt 5 (eg [7, 15, 16, 17] <| .alt 18 (.done) .no) .no) .no)
theorem one1' {P : Nat → Prop} (h : P 0) : ∀ k, k < 1 → P k := fun k hk => by
 obtain rfl : k = 0 := by omega
 exact h
theorem two1' {P : Nat → Prop} (h : P 0) (h1 : P 1) : ∀ k, k < 2 → P k := fun k hk => match k, hk with
 | 0, _ => h
 | 1, _ => h1
theorem row_eq {fv : SV} {s : Bool} {a b a' b' : Int} (h1 : a = a') (h2 : b = b') : [fv, .bool s, .int .i64 a, .int .i64 b] = [fv, .bool s, .int .i64 a', .int .i64 b'] := by rw [h1, h2]

theorem t101w (t : TK) (hn : t.n ≤ 5) (x : Tru) (hx : ∀ i, i < t.n → (0 ≤ (x i).1 ∧ (x i).1 ≤ 240) ∧ 0 ≤ (x i).2 ∧ (x i).2 ≤ 240) (g : Ms) : CallP Try.prog 101 [.eptr 0 4 0 0, .agg (trV x)] (some (.arr 4 1 1 (mrow (.fn (.func 79) [] [.ptr 2 0]) g)) :: HW t) (Ret (.tup []) (some (.arr 4 1 1 (mrow (.fn (.func 79) [] [.ptr 2 0]) (seeS g (TK.longest x t.n)))) :: HW t)) := by
 have c := t79 t hn x hx
 obtain ⟨N, hN⟩ : ∃ N, TK.longest x t.n = N := ⟨_, rfl⟩
 rw [hN] at c ⊢
 obtain ⟨s, lo, hi⟩ := g
 refine callR (E := E) E_ok Try.func101 rfl ?_
 (repeat' first|exact ap|refine aN ?_ ?_)
 refine drawP E_ok [0, 3] pl101_1 (by kernel_rfl) ?_
 (repeat' first|exact ap|refine aN ?_ ?_)
 all_goals first | exact om | skip
 refine c.use [1, 2] ?_ (by (repeat' first|exact fp|refine aN ?_ ?_)) rfl
 cases s
 ·all_goals (repeat' first|exact ap|refine aN ?_ ?_)
  all_goals first | exact gd | skip
  all_goals intro h1
  all_goals first | exact absurd h1 (by decide) | (cases h1; done) | skip
  (repeat' first|exact ap|refine aN ?_ ?_)
  all_goals first | exact om | skip
  refine drawP E_ok [] pl101_4s (by kernel_rfl) ?_
  (repeat' first|exact ap|refine aN ?_ ?_)
  all_goals first | exact om | skip
  all_goals refine ent_tau [0, 1, 2] ⟨?_, by (repeat' first|exact tm|refine aN ?_ ?_), rfl⟩
  all_goals (repeat' first|exact fp|refine aN ?_ ?_)
  all_goals exact one1' (row_eq (ite_self N) (ite_self N))
 ·all_goals (repeat' first|exact ap|refine aN ?_ ?_)
  all_goals first | exact gd | skip
  all_goals intro h1
  all_goals first | exact absurd h1 (by decide) | (cases h1; done) | skip
  (repeat' first|exact ap|refine aN ?_ ?_)
  all_goals first | exact om | skip
  refine drawP E_ok [] pl101_4s (by kernel_rfl) ?_
  (repeat' first|exact ap|refine aN ?_ ?_)
  all_goals first | exact om | skip
  all_goals refine ent_tau [0, 1, 2] ⟨?_, by (repeat' first|exact tm|refine aN ?_ ?_), rfl⟩
  all_goals (repeat' first|exact fp|refine aN ?_ ?_)
  all_goals exact one1' (row_eq (min_if lo N) (max_if hi N))
theorem t101b (t : TK) (hv : t.Valid) (x : Tru) (hx : ∀ i, i < t.n → 0 ≤ (x i).2 ∧ (x i).2 ≤ 240) (g : Ms) : CallP Try.prog 101 [.eptr 0 4 0 0, .agg (trV x)] (some (.arr 4 1 1 (mrow (.fn (.func 82) [] [.ptr 2 0]) g)) :: HW t) (Ret (.tup []) (some (.arr 4 1 1 (mrow (.fn (.func 82) [] [.ptr 2 0]) (seeS g (t.mostF x t.n)))) :: HW t)) := by
 have c := t82 t hv x hx
 obtain ⟨N, hN⟩ : ∃ N, t.mostF x t.n = N := ⟨_, rfl⟩
 rw [hN] at c ⊢
 obtain ⟨s, lo, hi⟩ := g
 refine callR (E := E) E_ok Try.func101 rfl ?_
 (repeat' first|exact ap|refine aN ?_ ?_)
 refine drawP E_ok [0, 3] pl101_1 (by kernel_rfl) ?_
 (repeat' first|exact ap|refine aN ?_ ?_)
 all_goals first | exact om | skip
 refine c.use [1, 2] ?_ (by (repeat' first|exact fp|refine aN ?_ ?_)) rfl
 cases s
 ·all_goals (repeat' first|exact ap|refine aN ?_ ?_)
  all_goals first | exact gd | skip
  all_goals intro h1
  all_goals first | exact absurd h1 (by decide) | (cases h1; done) | skip
  (repeat' first|exact ap|refine aN ?_ ?_)
  all_goals first | exact om | skip
  refine drawP E_ok [] pl101_4s (by kernel_rfl) ?_
  (repeat' first|exact ap|refine aN ?_ ?_)
  all_goals first | exact om | skip
  all_goals refine ent_tau [0, 1, 2] ⟨?_, by (repeat' first|exact tm|refine aN ?_ ?_), rfl⟩
  all_goals (repeat' first|exact fp|refine aN ?_ ?_)
  all_goals exact one1' (row_eq (ite_self N) (ite_self N))
 ·all_goals (repeat' first|exact ap|refine aN ?_ ?_)
  all_goals first | exact gd | skip
  all_goals intro h1
  all_goals first | exact absurd h1 (by decide) | (cases h1; done) | skip
  (repeat' first|exact ap|refine aN ?_ ?_)
  all_goals first | exact om | skip
  refine drawP E_ok [] pl101_4s (by kernel_rfl) ?_
  (repeat' first|exact ap|refine aN ?_ ?_)
  all_goals first | exact om | skip
  all_goals refine ent_tau [0, 1, 2] ⟨?_, by (repeat' first|exact tm|refine aN ?_ ?_), rfl⟩
  all_goals (repeat' first|exact fp|refine aN ?_ ?_)
  all_goals exact one1' (row_eq (min_if lo N) (max_if hi N))
theorem t101r (t : TK) (hv : t.Valid) (bo : Bool) (co : Nat) (x : Tru) (g : Ms) : CallP Try.prog 101 [.eptr 0 4 0 0, .agg (trV x)] (some (.arr 4 1 1 (mrow (.fn (.func 87) [] [.ptr 4 0, .ptr 5 0]) g)) :: HV t bo co) (Ret (.tup []) (some (.arr 4 1 1 (mrow (.fn (.func 87) [] [.ptr 4 0, .ptr 5 0]) (seeS g (((t.odd x : Nat) : Int))))) :: HV t bo co)) := by
 have c := t87 t hv bo co x
 obtain ⟨N, hN⟩ : ∃ N, ((t.odd x : Nat) : Int) = N := ⟨_, rfl⟩
 rw [hN] at c ⊢
 obtain ⟨s, lo, hi⟩ := g
 refine callR (E := E) E_ok Try.func101 rfl ?_
 (repeat' first|exact ap|refine aN ?_ ?_)
 refine drawP E_ok [0, 6] pl101_1 (by kernel_rfl) ?_
 (repeat' first|exact ap|refine aN ?_ ?_)
 all_goals first | exact om | skip
 refine c.use [1, 2, 3, 4, 5] ?_ (by (repeat' first|exact fp|refine aN ?_ ?_)) rfl
 cases s
 ·all_goals (repeat' first|exact ap|refine aN ?_ ?_)
  all_goals first | exact gd | skip
  all_goals intro h1
  all_goals first | exact absurd h1 (by decide) | (cases h1; done) | skip
  (repeat' first|exact ap|refine aN ?_ ?_)
  all_goals first | exact om | skip
  refine drawP E_ok [] pl101_4s (by kernel_rfl) ?_
  (repeat' first|exact ap|refine aN ?_ ?_)
  all_goals first | exact om | skip
  all_goals refine ent_tau [0, 1, 2, 3, 4, 5] ⟨?_, by (repeat' first|exact tm|refine aN ?_ ?_), rfl⟩
  all_goals (repeat' first|exact fp|refine aN ?_ ?_)
  all_goals exact one1' (row_eq (ite_self N) (ite_self N))
 ·all_goals (repeat' first|exact ap|refine aN ?_ ?_)
  all_goals first | exact gd | skip
  all_goals intro h1
  all_goals first | exact absurd h1 (by decide) | (cases h1; done) | skip
  (repeat' first|exact ap|refine aN ?_ ?_)
  all_goals first | exact om | skip
  refine drawP E_ok [] pl101_4s (by kernel_rfl) ?_
  (repeat' first|exact ap|refine aN ?_ ?_)
  all_goals first | exact om | skip
  all_goals refine ent_tau [0, 1, 2, 3, 4, 5] ⟨?_, by (repeat' first|exact tm|refine aN ?_ ?_), rfl⟩
  all_goals (repeat' first|exact fp|refine aN ?_ ?_)
  all_goals exact one1' (row_eq (min_if lo N) (max_if hi N))
theorem t101p (x : Tru) (i : Nat) (hi : i < 5) (g h : Ms) : CallP Try.prog 101 [.eptr 0 4 0 0, .agg (trV x)] (some (.arr 4 2 2 (mrow2 1 g h)) :: HM i) (Ret (.tup []) (some (.arr 4 2 2 (mrow2 1 (seeS g (x i).1) h)) :: HM i)) := by
 have c := t51 x i hi
 obtain ⟨N, hN⟩ : ∃ N, (x i).1 = N := ⟨_, rfl⟩
 rw [hN] at c ⊢
 obtain ⟨s, lo, hi⟩ := g
 refine callR (E := E) E_ok Try.func101 rfl ?_
 (repeat' first|exact ap|refine aN ?_ ?_)
 refine drawP E_ok [0, 2] pl101_1 (by kernel_rfl) ?_
 (repeat' first|exact ap|refine aN ?_ ?_)
 all_goals first | exact om | skip
 refine c.use [1] ?_ (by (repeat' first|exact fp|refine aN ?_ ?_)) rfl
 cases s
 ·all_goals (repeat' first|exact ap|refine aN ?_ ?_)
  all_goals first | exact gd | skip
  all_goals intro h1
  all_goals first | exact absurd h1 (by decide) | (cases h1; done) | skip
  (repeat' first|exact ap|refine aN ?_ ?_)
  all_goals first | exact om | skip
  refine drawP E_ok [] pl101_4s (by kernel_rfl) ?_
  (repeat' first|exact ap|refine aN ?_ ?_)
  all_goals first | exact om | skip
  all_goals refine ent_tau [0, 1] ⟨?_, by (repeat' first|exact tm|refine aN ?_ ?_), rfl⟩
  all_goals (repeat' first|exact fp|refine aN ?_ ?_)
  all_goals exact two1' (row_eq (ite_self N) (ite_self N)) rfl
 ·all_goals (repeat' first|exact ap|refine aN ?_ ?_)
  all_goals first | exact gd | skip
  all_goals intro h1
  all_goals first | exact absurd h1 (by decide) | (cases h1; done) | skip
  (repeat' first|exact ap|refine aN ?_ ?_)
  all_goals first | exact om | skip
  refine drawP E_ok [] pl101_4s (by kernel_rfl) ?_
  (repeat' first|exact ap|refine aN ?_ ?_)
  all_goals first | exact om | skip
  all_goals refine ent_tau [0, 1] ⟨?_, by (repeat' first|exact tm|refine aN ?_ ?_), rfl⟩
  all_goals (repeat' first|exact fp|refine aN ?_ ?_)
  all_goals exact two1' (row_eq (min_if lo N) (max_if hi N)) rfl
theorem t101q (x : Tru) (i : Nat) (hi : i < 5) (g h : Ms) : CallP Try.prog 101 [.eptr 0 4 1 0, .agg (trV x)] (some (.arr 4 2 2 (mrow2 1 g h)) :: HM i) (Ret (.tup []) (some (.arr 4 2 2 (mrow2 1 g (seeS h (x i).2))) :: HM i)) := by
 have c := t52 x i hi
 obtain ⟨N, hN⟩ : ∃ N, (x i).2 = N := ⟨_, rfl⟩
 rw [hN] at c ⊢
 obtain ⟨s, lo, hi⟩ := h
 refine callR (E := E) E_ok Try.func101 rfl ?_
 (repeat' first|exact ap|refine aN ?_ ?_)
 refine drawP E_ok [0, 2] pl101_1 (by kernel_rfl) ?_
 (repeat' first|exact ap|refine aN ?_ ?_)
 all_goals first | exact om | skip
 refine c.use [1] ?_ (by (repeat' first|exact fp|refine aN ?_ ?_)) rfl
 cases s
 ·all_goals (repeat' first|exact ap|refine aN ?_ ?_)
  all_goals first | exact gd | skip
  all_goals intro h1
  all_goals first | exact absurd h1 (by decide) | (cases h1; done) | skip
  (repeat' first|exact ap|refine aN ?_ ?_)
  all_goals first | exact om | skip
  refine drawP E_ok [] pl101_4s (by kernel_rfl) ?_
  (repeat' first|exact ap|refine aN ?_ ?_)
  all_goals first | exact om | skip
  all_goals refine ent_tau [0, 1] ⟨?_, by (repeat' first|exact tm|refine aN ?_ ?_), rfl⟩
  all_goals (repeat' first|exact fp|refine aN ?_ ?_)
  all_goals exact two1' rfl (row_eq (ite_self N) (ite_self N))
 ·all_goals (repeat' first|exact ap|refine aN ?_ ?_)
  all_goals first | exact gd | skip
  all_goals intro h1
  all_goals first | exact absurd h1 (by decide) | (cases h1; done) | skip
  (repeat' first|exact ap|refine aN ?_ ?_)
  all_goals first | exact om | skip
  refine drawP E_ok [] pl101_4s (by kernel_rfl) ?_
  (repeat' first|exact ap|refine aN ?_ ?_)
  all_goals first | exact om | skip
  all_goals refine ent_tau [0, 1] ⟨?_, by (repeat' first|exact tm|refine aN ?_ ?_), rfl⟩
  all_goals (repeat' first|exact fp|refine aN ?_ ?_)
  all_goals exact two1' rfl (row_eq (min_if lo N) (max_if hi N))
end Go.Proofs.Ytioajogaghgipaa
/-
 The spans of what is measured, of all truths (w).
-/
namespace Go.Proofs.Ytioajogaghgipaa
open Go Go.Sy Tic
set_option linter.unusedSimpArgs false
set_option maxRecDepth 100000
set_option maxHeartbeats 4000000
attribute [local irreducible] CallP CodeP Ent YieldP
set_option maxHeartbeats 16000000

theorem trs_bnd2 {t : TK} (hv : t.Valid) {x : Tru} (hx : x ∈ t.trs) : ∀ i, i < t.n → (0 ≤ (x i).1 ∧ (x i).1 ≤ 240) ∧ 0 ≤ (x i).2 ∧ (x i).2 ≤ 240 := fun i hi => by
 have h1 := (TK.mem_trs.1 hx).2.1 i hi
 have h2 := (hv.2.2 i hi).2
 unfold TK.okP at h1
 unfold spanOk at h2
 omega
noncomputable def L50 (st : LoopState) (p : Option Code) : SObj := .loopr ([none, none, none, none, none, some (.ptr 5 0), none, none, some (.ptr 6 0)] ++ List.replicate 50 none) #[32] (asOf Try.f50) (bodyOf Try.f50) st p
noncomputable def L50h (st : LoopState) (p : Option Code) : SObj := .loopr ([none, none, none, none, none, some (.ptr 3 0), none, none, some (.ptr 4 0)] ++ List.replicate 50 none) #[32] (asOf Try.f50) (bodyOf Try.f50) st p
def stepM {γ : Type} (f : γ → Tru → γ) (g : γ) (x : Tru) : γ × Bool := (f g x, true)
theorem run_M {γ : Type} (f : γ → Tru → γ) : ∀ (l : List Tru) (g : γ), run (stepM f) l g = (l.foldl f g, true)
 | [], _ => rfl
 | x :: l, g => by
  rw [run]
  exact run_M f l (f g x)
def msOf (l : List Int) : Ms := match l with
 | [] => (false, 0, 0)
 | _ => (true, (hull l).1, (hull l).2)
theorem foldl_M (F : Tru → Int) : ∀ (l : List Tru) (s : Int × Int), l.foldl (fun g x => seeS g (F x)) (true, s.1, s.2) = (true, ((l.map F).foldl (fun s y => (min s.1 y, max s.2 y)) s).1, ((l.map F).foldl (fun s y => (min s.1 y, max s.2 y)) s).2)
 | [], s => rfl
 | x :: l, s => by
  rw [List.foldl_cons, List.map_cons, List.foldl_cons]
  exact foldl_M F l (min s.1 (F x), max s.2 (F x))
theorem fold_ms (F : Tru → Int) : ∀ l : List Tru, l.foldl (fun g x => seeS g (F x)) (false, 0, 0) = msOf (l.map F)
 | [] => rfl
 | x :: l => foldl_M F l (F x, F x)
theorem ms_trs {t : TK} (F : Tru → Int) : msOf ((t.trP t.ordL).map F) = msOf (t.trs.map F) := by
 have hm : ∀ x, x ∈ t.trP t.ordL ↔ x ∈ t.trs := fun x => TK.mem_trP (TK.ordL_ok t)
 have hc : hull ((t.trP t.ordL).map F) = hull (t.trs.map F) := hull_congr fun y => by
  simp only [List.mem_map]
  exact ⟨fun ⟨x, hx, e⟩ => ⟨x, (hm x).1 hx, e⟩, fun ⟨x, hx, e⟩ => ⟨x, (hm x).2 hx, e⟩⟩
 cases h1 : t.trP t.ordL with
 | nil =>
  cases h2 : t.trs with
  | nil => rfl
  | cons y r =>
   have := (hm y).2 (by rw [h2]; exact List.mem_cons_self)
   rw [h1] at this
   cases this
 | cons x l =>
  cases h2 : t.trs with
  | nil =>
   have := (hm x).1 (by rw [h1]; exact List.mem_cons_self)
   rw [h2] at this
   cases this
  | cons y r =>
   rw [h1, h2] at hc
   show (true, (hull ((x :: l).map F)).1, (hull ((x :: l).map F)).2) = (true, (hull ((y :: r).map F)).1, (hull ((y :: r).map F)).2)
   rw [hc]
noncomputable def P50w (t : TK) (a : Bool) (g : Ms) (st : LoopState) (p : Option Code) : List (Nat × SObj) := [(4, L50 st p), (5, .cells [.slice 7 4 0 1 1]), (6, .cells [.bool a]), (7, .arr 4 1 1 (mrow (.fn (.func 79) [] [.ptr 8 0]) g)), (8, .cells (tb t))]
noncomputable def C50w (t : TK) (g : Ms) (b : Bool) : OB := packR (P50w t g.1 g (bif b then .ready else .done) (bif b then none else some .ret))
noncomputable def HU50w (t : TK) (bo : Bool) (co : Nat) (a : Bool) (g : Ms) (st : LoopState) (p : Option Code) : SHeap :=
 [some (.roa 5 t.n (TF t)), some (.roc [.int .i64 t.huts, .osl t.b 0 5 t.n t.cap, .osl bo 2 1 t.n co]), some (.roa 1 t.n (rowO (ord t))), some (.roc [.ptr 1 0]), some (L50 st p), some (.cells [.slice 7 4 0 1 1]), some (.cells [.bool a]), some (.arr 4 1 1 (mrow (.fn (.func 79) [] [.ptr 8 0]) g)), some (.cells (tb t)), some .dead, some .dead, some .dead, some .dead]
theorem up50w (t : TK) (bo : Bool) (co : Nat) (a : Bool) (g : Ms) (x : Tru) : Ent 13 ⟨argT [.agg (trV x)], HI t bo co (packR (P50w t a g .ready none)), []⟩ ⟨argT [.agg (trV x)], HU50w t bo co a g .ready none, []⟩ :=
 entUnpack (n := 13) (T := argT [.agg (trV x)]) (H := HI t bo co (packR (P50w t a g .ready none))) (D := []) NS (P50w t a g .ready none) 4 rfl rfl rfl ⟨trivial, trivial, trivial, trivial, trivial, trivial⟩
theorem pk50w (t : TK) (bo : Bool) (co : Nat) (a : Bool) (g : Ms) (T : Tm) : Ent 13 ⟨T, HU50w t bo co a g .ready none, []⟩ ⟨T, HI t bo co (packR (P50w t a g .ready none)), []⟩ :=
 entPack (n := 13) (T := T) (H := HU50w t bo co a g .ready none) (D := []) NS (P50w t a g .ready none) 4 (by (repeat' first|exact fp|refine aN ?_ ?_)) rfl rfl
theorem y50w (t : TK) (hv : t.Valid) (bo : Bool) (co : Nat) (g : Ms) (x : Tru) (hx : x ∈ t.trs) :
  YieldP Try.prog 4 [.agg (trV x)] (HI t bo co (C50w t g true)) (Ret (.bool (stepM (fun (g : Ms) x => seeS g (TK.longest x t.n)) g x).2) (HI t bo co (C50w t (stepM (fun (g : Ms) x => seeS g (TK.longest x t.n)) g x).1 (stepM (fun (g : Ms) x => seeS g (TK.longest x t.n)) g x).2))) := by
 have hb := trs_bnd2 hv hx
 have c := t101w t hv.2.1 x hb g
 obtain ⟨N, hN⟩ : ∃ N, TK.longest x t.n = N := ⟨_, rfl⟩
 rw [hN] at c
 have hpk := pk50w t bo co true (seeS g N)
 have hC : C50w t (seeS g N) true = packR (P50w t true (seeS g N) .ready none) := by
  obtain ⟨s, lo, hi⟩ := g
  cases s <;> rfl
 refine YieldP.pre (up50w t bo co g.1 g x) (show (4 : Nat) < 13 by decide) ?_
 simp only [stepM]
 rw [hN, hC]
 refine YieldP.ent (roundP E_ok rfl rfl fun l => ?_)
 (repeat' first|exact ap|refine aN ?_ ?_)
 refine loopP E_ok [5, 8, 9, 34] (fun j : Nat => [(35, .int .i64 j)]) (fun j _ => match j with
   | 0 => HU50w t bo co true g .busy none ++ [some (.cells (trV x))]
   | _ => HU50w t bo co true (seeS g N) .busy none ++ [some (.cells (trV x))]) (fun j => j ≤ 1) (fun j => 1 - j) 0 (Nat.zero_le _) ?_ ?_
 ·exact ent_tau [0, 1, 2, 3, 4, 5, 6, 7, 8, 9, 10, 11, 12, 13] ⟨by (repeat' first|exact fp|refine aN ?_ ?_), by (repeat' first|exact tm|refine aN ?_ ?_), rfl⟩
 rintro j hj
 have hj2 : j = 0 ∨ j = 1 := by omega
 rcases hj2 with rfl | rfl
 ·all_goals (repeat' first|exact ap|refine aN ?_ ?_)
  all_goals first | exact gd | skip
  all_goals intro h1
  all_goals first | exact absurd h1 (by decide) | (cases h1; done) | skip
  (repeat' first|exact ap|refine aN ?_ ?_)
  all_goals first | exact om | skip
  refine drawP E_ok [5, 13] pl50_14 (by kernel_rfl) ?_
  (repeat' first|exact ap|refine aN ?_ ?_)
  all_goals first | exact om | skip
  refine c.use [7, 0, 8] ?_ (by (repeat' first|exact fp|refine aN ?_ ?_)) rfl
  (repeat' first|exact ap|refine aN ?_ ?_)
  all_goals first | exact om | skip
  refine ⟨1, by omega, by omega, ?_⟩
  exact ent_tau [0, 1, 2, 3, 4, 5, 6, 7, 8, 9, 10, 11, 12, 13] ⟨by (repeat' first|exact fp|refine aN ?_ ?_), by (repeat' first|exact tm|refine aN ?_ ?_), rfl⟩
 ·all_goals (repeat' first|exact ap|refine aN ?_ ?_)
  all_goals first | exact gd | skip
  all_goals intro h1
  all_goals first | exact absurd h1 (by decide) | (cases h1; done) | skip
  (repeat' first|exact ap|refine aN ?_ ?_)
  all_goals first | exact om | skip
  refine ⟨_, _, ⟨rfl, rfl⟩, ?_⟩
  refine Ent.trans ?_ (hpk _)
  exact ent_tau [0, 1, 2, 3, 4, 5, 6, 7, 8, 9, 10, 11, 12] ⟨by (repeat' first|exact fp|refine aN ?_ ?_), by (repeat' first|exact tm|refine aN ?_ ?_), rfl⟩
theorem fold_two {a : Type} (f : Ms → a → Ms) (h : Ms → a → Ms) : ∀ (l : List a) (u v : Ms), l.foldl (fun (g : Ms × Ms) x => (f g.1 x, h g.2 x)) (u, v) = (l.foldl f u, l.foldl h v)
 | [], _, _ => rfl
 | x :: l, u, v => by
  rw [List.foldl_cons, List.foldl_cons, List.foldl_cons]
  exact fold_two f h l (f u x) (h v x)
noncomputable def G50w (t : TK) (bo : Bool) (co : Nat) (a : Bool) (g : Ms) (st : LoopState) (p : Option Code) : SHeap :=
 HQ t bo co ++ [some (.cells [.slice 5 4 0 1 1]), some (.cells [.bool a]), some (.arr 4 1 1 (mrow (.fn (.func 79) [] [.ptr 6 0]) g)), some (.cells (tb t)), some (.roc [.ptr 1 0]), some (L50h st p)]
def S50w : List Nat := [0, 1, 2, 7, 8, 3, 4, 5, 6, 3, 3, 3, 3]
noncomputable def GP50w (t : TK) (bo : Bool) (co : Nat) (ob : OB) : SHeap :=
 HQ t bo co ++ [some .dead, some .dead, some .dead, some .dead, some (.roc [.ptr 1 0]), some (.pack S50w ob)]
theorem r50w (t : TK) (hv : t.Valid) (bo : Bool) (co : Nat) (hbo : OrdV t bo co) : CallP Try.prog 103 [.yld 8, .ptr 7 0] (G50w t bo co false (false, 0, 0) .ready none) (Ret (.tup []) (G50w t bo co (msOf (t.trs.map fun x => TK.longest x t.n)).1 (msOf (t.trs.map fun x => TK.longest x t.n)) .ready none)) := by
 have c := t103 t hv bo co hbo (stepM (fun (g : Ms) x => seeS g (TK.longest x t.n))) (C50w t) (fun g x hx => y50w t hv bo co g x hx) (false, 0, 0)
 rw [run_M, fold_ms (fun x => TK.longest x t.n), ms_trs (fun x => TK.longest x t.n)] at c
 obtain ⟨R, hR⟩ : ∃ R : Ms, msOf (t.trs.map fun x => TK.longest x t.n) = R := ⟨_, rfl⟩
 rw [hR] at c ⊢
 simp only at c
 have h1 : CallP Try.prog 103 [.yld 8, .ptr 7 0] (GP50w t bo co (C50w t (false, 0, 0) true)) (Ret (.tup []) (GP50w t bo co (C50w t R true))) := by
  refine c.use S50w ?_ (by (repeat' first|exact fp|refine aN ?_ ?_)) rfl
  exact ⟨rfl, rfl⟩
 refine CallP.pre (entPack (n := 9) (T := argT [.yld 8, .ptr 7 0]) (H := G50w t bo co false (false, 0, 0) .ready none) (D := []) S50w (P50w t false (false, 0, 0) .ready none) 8 (by (repeat' first|exact fp|refine aN ?_ ?_)) rfl rfl) ?_
 refine CallP.entR h1 ?_
 exact entUnpack (n := 9) (T := [some (none, .tup [])]) (H := GP50w t bo co (C50w t R true)) (D := []) S50w (P50w t R.1 R .ready none) 8 rfl rfl rfl ⟨trivial, trivial, trivial, trivial, trivial, trivial⟩
def row50w : Nat → List SV := fun _ => [.fn (.func 79) [] [.ptr 4 0]]
def spn50w (t : TK) : Nat → List SV := fun _ => [.int .i64 (hull (t.trs.map fun x => TK.longest x t.n)).1, .int .i64 (hull (t.trs.map fun x => TK.longest x t.n)).2]
def HS50w (t : TK) (bo : Bool) (co : Nat) : SHeap := HQ t bo co ++ [some (.roa 1 1 row50w), some (.cells (tb t))]
def HD50w (t : TK) (bo : Bool) (co : Nat) : SHeap := HQ t bo co ++ [some .dead, some .dead]
def K50w (t : TK) (bo : Bool) (co : Nat) : CE → SHeap → Prop := fun ce h' =>
 (t.trs = [] ∧ ce = .panic (panE 10) ∧ h' = HD50w t bo co) ∨ (t.trs ≠ [] ∧ ∃ c, 1 ≤ c ∧ ce = .ret (.slice 5 2 0 1 c) ∧ h' = HD50w t bo co ++ [some (.arr 2 1 c (spn50w t))])
theorem t50w (t : TK) (hv : t.Valid) (bo : Bool) (co : Nat) (hbo : OrdV t bo co) : CallP Try.prog 50 [.ptr 1 0, .slice 3 1 0 1 1] (HS50w t bo co) (K50w t bo co) := by
 have c := r50w t hv bo co hbo
 have hR0 : (msOf (t.trs.map fun x => TK.longest x t.n) = (false, 0, 0) ∧ t.trs = []) ∨ (t.trs ≠ [] ∧ msOf (t.trs.map fun x => TK.longest x t.n) = (true, (hull (t.trs.map fun x => TK.longest x t.n)).1, (hull (t.trs.map fun x => TK.longest x t.n)).2)) := by
  cases hT : t.trs with
  | nil => exact .inl ⟨rfl, rfl⟩
  | cons x l => exact .inr ⟨List.cons_ne_nil _ _, rfl⟩
 obtain ⟨R, hR⟩ : ∃ R : Ms, msOf (t.trs.map fun x => TK.longest x t.n) = R := ⟨_, rfl⟩
 rw [hR] at c hR0
 unfold K50w spn50w
 obtain ⟨u, hu⟩ : ∃ u : Int × Int, hull (t.trs.map fun x => TK.longest x t.n) = u := ⟨_, rfl⟩
 rw [hu] at hR0 ⊢
 have hcl : R.1 = true ∨ R.1 = false := by cases R.1 <;> simp
 refine callMK (E := E) E_ok Try.func50 rfl ?_
 (repeat' first|exact ap|refine aN ?_ ?_)
 all_goals first | exact om | skip
 all_goals first | (show ((ti134.bytes : Nat) : Int) * ((1 : Nat) : Int) ≤ _; decide) | skip
 refine loopP E_ok [0, 5, 17, 18] (fun j : Nat => [(19, .int .i64 j)]) (fun j _ => match j with
   | 0 => HS50w t bo co ++ [some (.arr 4 1 1 (mrow (.fnil) (false, 0, 0))), some (.cells [.slice 5 4 0 1 1])]
   | _ => HS50w t bo co ++ [some (.arr 4 1 1 (mrow (.fn (.func 79) [] [.ptr 4 0]) (false, 0, 0))), some (.cells [.slice 5 4 0 1 1])]) (fun j => j ≤ 1) (fun j => 1 - j) 0 (Nat.zero_le _) ?_ ?_
 ·refine ent_tau [0, 1, 2, 3, 4, 5, 6] ⟨?_, by (repeat' first|exact tm|refine aN ?_ ?_), rfl⟩
  (repeat' first|exact fp|refine aN ?_ ?_)
  all_goals exact one1' rfl
 rintro j hj
 have hj2 : j = 0 ∨ j = 1 := by omega
 rcases hj2 with rfl | rfl
 ·all_goals (repeat' first|exact ap|refine aN ?_ ?_)
  all_goals first | exact gd | skip
  all_goals intro h1
  all_goals first | exact absurd h1 (by decide) | (cases h1; done) | skip
  (repeat' first|exact ap|refine aN ?_ ?_)
  all_goals first | exact om | skip
  refine ⟨1, by omega, by omega, ?_⟩
  refine ent_tau [0, 1, 2, 3, 4, 5, 6] ⟨?_, by (repeat' first|exact tm|refine aN ?_ ?_), rfl⟩
  (repeat' first|exact fp|refine aN ?_ ?_)
  all_goals exact one1' rfl
 ·all_goals (repeat' first|exact ap|refine aN ?_ ?_)
  all_goals first | exact gd | skip
  all_goals intro h1
  all_goals first | exact absurd h1 (by decide) | (cases h1; done) | skip
  (repeat' first|exact ap|refine aN ?_ ?_)
  all_goals first | exact om | skip
  refine (t67o t bo co).use [0, 1, 2] ?_ (by (repeat' first|exact fp|refine aN ?_ ?_)) rfl
  (repeat' first|exact ap|refine aN ?_ ?_)
  refine rangeP E_ok rfl rfl ?_
  refine c.use [0, 1, 2, 6, 7, 5, 4, 8, 10] ?_ (by (repeat' first|exact fp|refine aN ?_ ?_)) rfl
  refine ⟨by decide, ?_⟩
  rcases hR0 with ⟨rfl, hne⟩ | ⟨hne, rfl⟩
  ·(repeat' first|exact ap|refine aN ?_ ?_)
   all_goals first | exact om | skip
   refine must (fun hb => ?_) (fun hb => ?_)
   ·exact absurd hb (by decide)
   ·(repeat' first|exact ap|refine aN ?_ ?_)
    ·exact fun o h => h
    refine ⟨_, _, .inl ⟨hne, rfl, rfl⟩, ?_⟩
    exact ent_tau [0, 1, 2, 3, 4] ⟨by (repeat' first|exact fp|refine aN ?_ ?_), by (repeat' first|exact tm|refine aN ?_ ?_), rfl⟩
  ·(repeat' first|exact ap|refine aN ?_ ?_)
   all_goals first | exact om | skip
   refine must (fun hb => ?_) (fun hb => ?_)
   ·(repeat' first|exact ap|refine aN ?_ ?_)
    all_goals first | exact om | skip
    refine loopP E_ok [46, 47] (fun g : Nat × Nat => [(48, .int .i64 g.1), (11, match g.1 with | 0 => .snil | _ => .slice 11 2 0 g.1 g.2)]) (fun g H => match g.1 with
      | 0 => HQ t bo co ++ [some (.roa 1 1 row50w), some .dead, some (.arr 4 1 1 (mrow (.fn (.func 79) [] [.ptr 4 0]) (true, u.1, u.2))), some (.cells [.slice 5 4 0 1 1]), some .dead, some .dead, some (.obj isDfr), some .dead]
      | _ => HQ t bo co ++ [some (.roa 1 1 row50w), some .dead, some (.arr 4 1 1 (mrow (.fn (.func 79) [] [.ptr 4 0]) (true, u.1, u.2))), some (.cells [.slice 5 4 0 1 1]), some .dead, some .dead, some (.obj isDfr), some .dead, some (.arr 2 1 g.2 (fun _ => [.int .i64 u.1, .int .i64 u.2]))]) (fun g => g.1 ≤ 1 ∧ (0 < g.1 → g.1 ≤ g.2 ∧ g.2 ≤ 9223372036854775807)) (fun g => 1 - g.1) (0, 0) ⟨Nat.zero_le _, fun h => absurd h (Nat.lt_irrefl 0)⟩ ?_ ?_
    ·refine ent_tau [0, 1, 2, 3, 4, 5, 6, 7, 8, 9, 10] ⟨?_, by (repeat' first|exact tm|refine aN ?_ ?_), rfl⟩
     (repeat' first|exact fp|refine aN ?_ ?_)
     exact fun o h => h
    rintro ⟨j, c⟩ ⟨hj, hjc⟩
    simp only at hj hjc
    have hj2 : j = 0 ∨ j = 1 := by omega
    rcases hj2 with rfl | rfl
    ·all_goals (repeat' first|exact ap|refine aN ?_ ?_)
     all_goals first | exact gd | skip
     all_goals intro h1
     all_goals first | exact absurd h1 (by decide) | (cases h1; done) | skip
     (repeat' first|exact ap|refine aN ?_ ?_)
     all_goals first | exact om | skip
     all_goals first | exact (hjc (by omega)).2 | (show 1 * ti28.bytes ≤ _; decide) | (show 1 * ti28.bytes ≤ _; decide) | skip
     intro c' hc1 hc2
     (repeat' first|exact ap|refine aN ?_ ?_)
     all_goals first | exact om | skip
     refine ⟨(1, c'), ⟨by simp only; omega, fun _ => ⟨hc1, hc2⟩⟩, by simp only; omega, ?_⟩
     refine ent_tau [0, 1, 2, 3, 4, 5, 6, 7, 8, 9, 10, 13] ⟨?_, by (repeat' first|exact tm|refine aN ?_ ?_), rfl⟩
     (repeat' first|exact fp|refine aN ?_ ?_)
     all_goals first | exact fun o h => h | skip
     all_goals exact one1' rfl
    ·all_goals (repeat' first|exact ap|refine aN ?_ ?_)
     all_goals first | exact gd | skip
     all_goals intro h1
     all_goals first | exact absurd h1 (by decide) | (cases h1; done) | skip
     (repeat' first|exact ap|refine aN ?_ ?_)
     all_goals first | exact om | skip
     ·exact fun o h => h
     refine ⟨_, _, .inr ⟨hne, c, (hjc (by omega)).1, rfl, rfl⟩, ?_⟩
     refine ent_tau [0, 1, 2, 3, 4, 11] ⟨?_, by (repeat' first|exact tm|refine aN ?_ ?_), rfl⟩
     (repeat' first|exact fp|refine aN ?_ ?_)
   ·cases hb
end Go.Proofs.Ytioajogaghgipaa
/-
 Contract: ticket.Waits.
-/
namespace Go.Proofs.Ytioajogaghgipaa
open Go Go.Sy Tic
set_option linter.unusedSimpArgs false
set_option maxRecDepth 100000
set_option maxHeartbeats 4000000
attribute [local irreducible] CallP CodeP Ent YieldP
set_option maxHeartbeats 16000000

open Classical in
noncomputable def spT (t : TK) (s : Int × Int) : Int × Int × Int := if ¬ t.Valid then (0, 0, 1) else if t.trs = [] then (0, 0, 10) else (s.1, s.2, 0)
theorem valid0 {t : TK} (hv : t.Valid) (h0 : t.n = 0) : t.trs ≠ [] := by
 have : (fun _ => (0, 0) : Tru) ∈ t.trs := TK.mem_trs.2 ⟨fun _ _ => rfl, fun i hi => by omega, fun i k hi => by omega⟩
 exact List.ne_nil_of_mem this

def K50wa (t : TK) : CE → SHeap → Prop := fun ce h' =>
 (t.trs = [] ∧ ce = .panic (panE 10) ∧ h' = [some (.roa 5 t.n (TF t)), some .dead, some .dead, some .dead, some .dead]) ∨ (t.trs ≠ [] ∧ ∃ c, 1 ≤ c ∧ ce = .ret (.slice 5 2 0 1 c) ∧ h' = [some (.roa 5 t.n (TF t)), some .dead, some .dead, some .dead, some .dead, some (.arr 2 1 c (spn50w t))])
def K50wz (t : TK) : CE → SHeap → Prop := fun ce h' =>
 ∃ c, 1 ≤ c ∧ ce = .ret (.slice 4 2 0 1 c) ∧ h' = [some (.roa 5 t.n (TF t)), some .dead, some .dead, some .dead, some (.arr 2 1 c (spn50w t))]
def rowzw : Nat → List SV := fun _ => [.fn (.func 79) [] [.ptr 3 0]]
theorem t50wa (t : TK) (hv : t.Valid) (h0 : 0 < t.n) (c : Nat) (hc : t.n ≤ c) : CallP Try.prog 50 [.ptr 1 0, .slice 3 1 0 1 1] (HA t c ++ [some (.roa 1 1 row50w), some (.cells (tb t))]) (K50wa t) := by
 have h := t50w t hv true c (.inr ⟨h0, rfl, hc⟩)
 refine CallP.ent (CallP.pre (h' := HS50w t true c) (Ent.trans (entCells (i := 1) (cs' := [.int .i64 t.huts, .osl t.b 0 5 t.n t.cap, .osl true 2 1 t.n c]) rfl (fun η => by simp [denL, den])) ?_) (h.mono fun ce h1 hk => ?_))
 ·exact ent_tau [0, 1, 2, 3, 4] ⟨by (repeat' first|exact fp|refine aN ?_ ?_), by (repeat' first|exact tm|refine aN ?_ ?_), rfl⟩
 ·rcases hk with ⟨hne, rfl, rfl⟩ | ⟨hne, c', hc', rfl, rfl⟩
  ·refine ⟨_, _, .inl ⟨hne, rfl, rfl⟩, ?_⟩
   show Ent 5 ⟨[some (none, panE 10)], _, []⟩ ⟨[some (none, panE 10)], _, []⟩
   exact ent_tau [0, 1, 2, 3, 4] ⟨by (repeat' first|exact fp|refine aN ?_ ?_), by (repeat' first|exact tm|refine aN ?_ ?_), rfl⟩
  ·refine ⟨_, _, .inr ⟨hne, c', hc', rfl, rfl⟩, ?_⟩
   show Ent 5 ⟨[some (none, .slice 5 2 0 1 c')], _, []⟩ ⟨[some (none, .slice 5 2 0 1 c')], _, []⟩
   exact ent_tau [0, 1, 2, 3, 4, 5] ⟨by (repeat' first|exact fp|refine aN ?_ ?_), by (repeat' first|exact tm|refine aN ?_ ?_), rfl⟩
theorem t50wz (t : TK) (hv : t.Valid) (h0 : t.n = 0) : CallP Try.prog 50 [.ptr 1 0, .slice 2 1 0 1 1] (HZ t ++ [some (.roa 1 1 rowzw), some (.cells (tb t))]) (K50wz t) := by
 have h := t50w t hv false 0 (.inl ⟨h0, rfl, rfl⟩)
 have hn := valid0 hv h0
 have hal : Ent 4 ⟨argT [.ptr 1 0, .slice 2 1 0 1 1], HZ t ++ [some (.roa 1 1 rowzw), some (.cells (tb t))], []⟩ ⟨argT [.ptr 1 0, .slice 2 1 0 1 1], [some (.roa 5 t.n (TF t)), some (.cells [.int .i64 t.huts, .osl t.b 0 5 t.n t.cap, .osl false 4 1 t.n 0]), some (.roa 1 1 rowzw), some (.cells (tb t)), some (.roa 1 t.n (rowO (ord t)))], []⟩ := by
  unfold HZ tb
  rw [h0]
  refine (entCells (i := 1) (cs' := [.int .i64 t.huts, .osl t.b 0 5 0 t.cap, .osl false 4 1 0 0]) rfl (fun η => by simp [denL, den])).trans ?_
  exact entAlias (i := 0) rfl 1 (rowO (ord t))
 refine CallP.ent (CallP.pre hal (CallP.frameH h [0, 1, 4, 2, 3] (by (repeat' first|exact fp|refine aN ?_ ?_)) rfl ?_))
 rintro ce h' (⟨hne, rfl, rfl⟩ | ⟨hne, c', hc', rfl, rfl⟩)
 ·exact absurd hne hn
 ·refine ⟨rfl, ?_⟩
  refine ⟨_, _, ⟨c', hc', rfl, rfl⟩, ?_⟩
  exact ent_tau [0, 1, 2, 3, 5] ⟨by (repeat' first|exact fp|refine aN ?_ ?_), by (repeat' first|exact tm|refine aN ?_ ?_), rfl⟩
theorem t24 (t : TK) (hn : t.n ≤ 1000000) (hh : InR .i64 t.huts) : CallP Try.prog 24 [TA t] (TH t) (Ret (.tup [.agg [.int .i64 (spT t t.waits).1, .int .i64 (spT t t.waits).2.1], .int .i64 (spT t t.waits).2.2]) (TH t)) := by
 refine callD (E := E) E_ok Try.func24 rfl Try.func78 ⟨_, _, _, _, _, _, _, _, rfl, rfl, rfl⟩ rfl rfl ?_
 (repeat' first|exact ap|refine aN ?_ ?_)
 refine CallP.frame (t48 t true hn hh) [0] (by (repeat' first|exact fp|refine aN ?_ ?_)) (apartB_ok rfl) rfl ?_
 rintro ce h' (⟨hv, hb, h0, rfl, rfl⟩ | ⟨hv, hb, h0, c, hc, rfl, rfl⟩ | ⟨hv, rfl, rfl⟩ | ⟨hv, hb, rfl, rfl⟩)
 ·refine ⟨ownB_ok rfl, ?_⟩
  have e0 : spT t t.waits = ((t.waits).1, (t.waits).2, 0) := by unfold spT; rw [if_neg (by simpa using hv), if_neg (valid0 hv h0)]
  (repeat' first|exact ap|refine aN ?_ ?_)
  refine CallP.frame (t50wz t hv h0) [0, 4, 5, 1] (by (repeat' first|exact fp|refine aN ?_ ?_); all_goals exact one1' rfl) (apartB_ok rfl) rfl ?_
  rintro ce h' ⟨c', hc', rfl, rfl⟩
  refine ⟨ownB_ok rfl, ?_⟩
  (repeat' first|exact ap|refine aN ?_ ?_)
  all_goals first | exact om | skip
  refine (t47n 0).use [3] ?_ (by (repeat' first|exact fp|refine aN ?_ ?_)) rfl
  (repeat' first|exact ap|refine aN ?_ ?_)
  refine ⟨_, _, ⟨rfl, rfl⟩, ?_⟩
  rw [e0]
  exact ent_tau [0] ⟨by (repeat' first|exact fp|refine aN ?_ ?_), by (repeat' first|exact tm|refine aN ?_ ?_), rfl⟩
 ·refine ⟨ownB_ok rfl, ?_⟩
  (repeat' first|exact ap|refine aN ?_ ?_)
  refine CallP.frame (t50wa t hv h0 c hc.1) [0, 4, 5, 6, 1] (by (repeat' first|exact fp|refine aN ?_ ?_); all_goals exact one1' rfl) (apartB_ok rfl) rfl ?_
  rintro ce h' (⟨hne, rfl, rfl⟩ | ⟨hne, c', hc', rfl, rfl⟩)
  ·refine ⟨ownB_ok rfl, ?_⟩
   have e0 : spT t t.waits = (0, 0, 10) := by unfold spT; rw [if_neg (by simpa using hv), if_pos hne]
   (repeat' first|exact ap|refine aN ?_ ?_)
   refine (t47s 10 0).use [3] ?_ (by (repeat' first|exact fp|refine aN ?_ ?_)) rfl
   (repeat' first|exact ap|refine aN ?_ ?_)
   refine ⟨_, _, ⟨rfl, rfl⟩, ?_⟩
   rw [e0]
   exact ent_tau [0] ⟨by (repeat' first|exact fp|refine aN ?_ ?_), by (repeat' first|exact tm|refine aN ?_ ?_), rfl⟩
  ·refine ⟨ownB_ok rfl, ?_⟩
   have e0 : spT t t.waits = ((t.waits).1, (t.waits).2, 0) := by unfold spT; rw [if_neg (by simpa using hv), if_neg hne]
   (repeat' first|exact ap|refine aN ?_ ?_)
   all_goals first | exact om | skip
   refine (t47n 0).use [3] ?_ (by (repeat' first|exact fp|refine aN ?_ ?_)) rfl
   (repeat' first|exact ap|refine aN ?_ ?_)
   refine ⟨_, _, ⟨rfl, rfl⟩, ?_⟩
   rw [e0]
   exact ent_tau [0] ⟨by (repeat' first|exact fp|refine aN ?_ ?_), by (repeat' first|exact tm|refine aN ?_ ?_), rfl⟩
 ·refine ⟨ownB_ok rfl, ?_⟩
  have e0 : spT t t.waits = (0, 0, 1) := by unfold spT; rw [if_pos hv]
  (repeat' first|exact ap|refine aN ?_ ?_)
  refine (t47s 1 0).use [3] ?_ (by (repeat' first|exact fp|refine aN ?_ ?_)) rfl
  (repeat' first|exact ap|refine aN ?_ ?_)
  refine ⟨_, _, ⟨rfl, rfl⟩, ?_⟩
  rw [e0]
  exact ent_tau [0] ⟨by (repeat' first|exact fp|refine aN ?_ ?_), by (repeat' first|exact tm|refine aN ?_ ?_), rfl⟩
 ·cases hb
end Go.Proofs.Ytioajogaghgipaa
