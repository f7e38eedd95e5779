/-
  Parts: A7, A8, B1, Dt, A9, B2.
-/
import Derived.Test.YtioajogaghgipaaP16
import Derived.Test.YtioajogaghgipaaP15
import Derived.Test.YtioajogaghgipaaP13
import Derived.Test.YtioajogaghgipaaRows
set_option linter.unusedVariables false
/-
 Plain law of tickets, part 7.
-/
namespace Tic
set_option linter.unusedVariables false
namespace TK

/-! ### Minutes known better -/
structure Nar (t t' : TK) : Prop where
 n : t'.n = t.n
 sub : ∀ x ∈ t'.trs, x ∈ t.trs
theorem Nar.of {t t' : TK} (hn : t'.n = t.n) (hh : ∀ i, i < t.n → t'.hut i = t.hut i) (hp : ∀ i, i < t.n → (t.bl i ≤ t'.bl i ∧ t'.bh i ≤ t.bh i) ∧ t.dl i ≤ t'.dl i ∧ t'.dh i ≤ t.dh i) : Nar t t' := by
 refine ⟨hn, fun x hx => ?_⟩
 obtain ⟨h0, h1, h2⟩ := mem_trs.1 hx
 rw [hn] at h0 h1 h2
 refine mem_trs.2 ⟨h0, fun i hi => ?_, fun i k hi hk hne e => h2 i k hi hk hne (by rw [hh i hi, hh k hk]; exact e)⟩
 have a := h1 i hi
 have b := hp i hi
 unfold okP at a ⊢
 omega
section
variable {t t' : TK}
theorem Nar.ne (h : Nar t t') (hne : t'.trs ≠ []) : t.trs ≠ [] := fun e => by
 obtain ⟨x, hx⟩ := List.exists_mem_of_ne_nil _ hne
 have := h.sub x hx
 rw [e] at this
 cases this
theorem hull_sub {l l' : List Int} {s s' : Int × Int} (h : IsHull l s) (h' : IsHull l' s') (e : ∀ y, y ∈ l' → y ∈ l) : s.1 ≤ s'.1 ∧ s'.2 ≤ s.2 := ⟨h.1.2 _ (e _ h'.1.1), h.2.2 _ (e _ h'.2.1)⟩
theorem Nar.map (h : Nar t t') (f : Tru → Int) : ∀ y, y ∈ t'.trs.map f → y ∈ t.trs.map f := fun y hy => by
 obtain ⟨x, hx, rfl⟩ := List.mem_map.1 hy
 exact List.mem_map_of_mem (h.sub x hx)
theorem Nar.bought (h : Nar t t') (hne : t'.trs ≠ []) (i : Nat) : (t.bought i).1 ≤ (t'.bought i).1 ∧ (t'.bought i).2 ≤ (t.bought i).2 := hull_sub (bought_is (h.ne hne) i) (bought_is hne i) (h.map _)
theorem Nar.door (h : Nar t t') (hne : t'.trs ≠ []) (i : Nat) : (t.door i).1 ≤ (t'.door i).1 ∧ (t'.door i).2 ≤ (t.door i).2 := hull_sub (door_is (h.ne hne) i) (door_is hne i) (h.map _)
theorem Nar.waits (h : Nar t t') (hne : t'.trs ≠ []) : t.waits.1 ≤ t'.waits.1 ∧ t'.waits.2 ≤ t.waits.2 := by
 have a := waits_is hne
 rw [h.n] at a
 exact hull_sub (waits_is (h.ne hne)) a (h.map _)
theorem Nar.wrong (h : Nar t t') (hne : t'.trs ≠ []) : t.wrong.1 ≤ t'.wrong.1 ∧ t'.wrong.2 ≤ t.wrong.2 := by
 have a := wrong_is hne
 have e : (fun x => ((t'.odd x : Nat) : Int)) = fun x => ((t.odd x : Nat) : Int) := by
  funext x
  unfold odd
  rw [h.n]
 rw [e] at a
 exact hull_sub (wrong_is (h.ne hne)) a (h.map _)
theorem Nar.turn (h : Nar t t') (hne : t'.trs ≠ []) {i : Nat} (hv : t.turn i ≠ 1) : t'.turn i = t.turn i := by
 have hne0 := h.ne hne
 rcases grade_rng (fun x => inTurn t.n x i) t.trs with e | e | e
 ·have e' : t.turn i = 0 := e
  rw [e']
  rw [grade_zero hne0] at e
  unfold TK.turn
  rw [grade_zero hne, h.n]
  exact fun x hx => e x (h.sub x hx)
 ·exact absurd e hv
 ·have e' : t.turn i = 2 := e
  rw [e']
  rw [grade_two hne0] at e
  unfold TK.turn
  rw [grade_two hne, h.n]
  exact fun x hx => e x (h.sub x hx)
theorem Nar.perhaps (h : Nar t t') {i o : Nat} (hb : (t'.perhaps i).testBit o = true) : (t.perhaps i).testBit o = true := by
 obtain ⟨a, x, hx, e⟩ := perhaps_bit.1 hb
 exact perhaps_bit.2 ⟨by rw [← h.n]; exact a, x, h.sub x hx, e⟩
theorem Nar.surely (h : Nar t t') {i o : Nat} (hb : (t.surely i).testBit o = true) : (t'.surely i).testBit o = true := by
 obtain ⟨a, e⟩ := surely_bit.1 hb
 exact surely_bit.2 ⟨by rw [h.n]; exact a, fun x hx => e x (h.sub x hx)⟩
end

/-! ### Truths that correspond -/
structure Corr (t t' : TK) (φ : Tru → Tru) : Prop where
 n : t'.n = t.n
 to : ∀ x ∈ t.trs, φ x ∈ t'.trs
 from' : ∀ y ∈ t'.trs, ∃ x ∈ t.trs, φ x = y
section
variable {t t' : TK} {φ : Tru → Tru}
theorem Corr.nil (h : Corr t t' φ) : t'.trs = [] ↔ t.trs = [] := by
 rw [List.eq_nil_iff_forall_not_mem, List.eq_nil_iff_forall_not_mem]
 constructor
 ·exact fun H x hx => H _ (h.to x hx)
 ·intro H y hy
  obtain ⟨x, hx, _⟩ := h.from' y hy
  exact H x hx
theorem Corr.hull (h : Corr t t' φ) {f f' : Tru → Int} (hf : ∀ x ∈ t.trs, f' (φ x) = f x) : Tic.hull (t'.trs.map f') = Tic.hull (t.trs.map f) := hull_congr fun y => by
 rw [List.mem_map, List.mem_map]
 constructor
 ·rintro ⟨z, hz, rfl⟩
  obtain ⟨x, hx, rfl⟩ := h.from' z hz
  exact ⟨x, hx, (hf x hx).symm⟩
 ·rintro ⟨x, hx, rfl⟩
  exact ⟨φ x, h.to x hx, hf x hx⟩
theorem Corr.all (h : Corr t t' φ) {q q' : Tru → Bool} (hq : ∀ x ∈ t.trs, q' (φ x) = q x) : t'.trs.all q' = t.trs.all q := by
 rw [Bool.eq_iff_iff, List.all_eq_true, List.all_eq_true]
 constructor
 ·intro H x hx
  rw [← hq x hx]
  exact H _ (h.to x hx)
 ·intro H y hy
  obtain ⟨x, hx, rfl⟩ := h.from' y hy
  rw [hq x hx]
  exact H x hx
theorem Corr.any (h : Corr t t' φ) {q q' : Tru → Bool} (hq : ∀ x ∈ t.trs, q' (φ x) = q x) : t'.trs.any q' = t.trs.any q := by
 rw [Bool.eq_iff_iff, List.any_eq_true, List.any_eq_true]
 constructor
 ·rintro ⟨y, hy, e⟩
  obtain ⟨x, hx, rfl⟩ := h.from' y hy
  exact ⟨x, hx, by rw [← hq x hx]; exact e⟩
 ·rintro ⟨x, hx, e⟩
  exact ⟨φ x, h.to x hx, by rw [hq x hx]; exact e⟩
theorem Corr.grade (h : Corr t t' φ) {q q' : Tru → Bool} (hq : ∀ x ∈ t.trs, q' (φ x) = q x) : Tic.grade q' t'.trs = Tic.grade q t.trs := by
 unfold Tic.grade
 rw [h.all hq, h.any hq]
end
/-! ### Huts numbered otherwise -/
/-! ### All so many minutes later -/
def shift (n : Nat) (d : Int) (x : Tru) : Tru := fun i => if i < n then ((x i).1 + d, (x i).2 + d) else (0, 0)
end TK
end Tic
/-
 Plain law of tickets, part 8.
-/
namespace Tic
set_option linter.unusedVariables false
theorem maskN_or (p : Nat → Bool) (n : Nat) : maskN p n ||| 2 ^ n = maskN p n + 2 ^ n := by
 have hl := maskN_lt p n
 have h2 : 2 ^ n < 2 ^ (n + 1) := by rw [Nat.pow_succ]; have := Nat.pow_pos (n := n) (show 0 < 2 by decide); omega
 refine set_eq (n := n + 1) (Nat.or_lt_two_pow (by omega) h2) (by rw [Nat.pow_succ]; omega) fun i hi => ?_
 rw [Nat.testBit_or, Nat.add_comm]
 rcases Nat.lt_succ_iff_lt_or_eq.1 hi with c | rfl
 ·rw [Nat.testBit_two_pow_add_gt c, Nat.testBit_two_pow_of_ne (by omega), Bool.or_false]
 ·rw [Nat.testBit_two_pow_add_eq, Nat.testBit_two_pow_self, Nat.testBit_lt_two_pow hl]
  rfl
theorem cntN_lt {p : Nat → Bool} : ∀ {n a : Nat}, a < n → p a = false → cntN p n < n
 | 0, a, h, _ => absurd h (Nat.not_lt_zero a)
 | n + 1, a, h, hp => by
  have hl := cntN_le p n
  rw [cntN]
  rcases Nat.lt_succ_iff_lt_or_eq.1 h with c | rfl
  ·have := cntN_lt c hp
   cases p n <;> simp only <;> omega
  ·rw [hp]
   simp only
   omega
def hutM (t : TK) (x : Tru) (m : Int) : Nat → Nat
 | 0 => 0
 | i + 1 => if inI (m - (x i).2) 0 29 then hutM t x m i ||| 2 ^ (t.hut i).toNat else hutM t x m i
namespace TK
variable {t : TK}
theorem hutM_bit {x : Tru} {m : Int} : ∀ {k : Nat}, (∀ i, i < k → 0 ≤ t.hut i) → ∀ h : Nat, (hutM t x m k).testBit h = anyB (fun i => decide (t.hut i = (h : Nat)) && inI (m - (x i).2) 0 29) k
 | 0, _, h => by simp [hutM, anyB]
 | k + 1, hk, h => by
  have ih := hutM_bit (k := k) (x := x) (m := m) (fun i hi => hk i (by omega)) h
  have h0 := hk k (Nat.lt_succ_self k)
  rw [hutM, anyB, ← ih]
  cases c : inI (m - (x k).2) 0 29 with
  | false => simp
  | true =>
   simp only [if_true, Bool.and_true, Nat.testBit_or]
   congr 1
   by_cases e : t.hut k = (h : Nat)
   ·rw [decide_eq_true e]
    have : (t.hut k).toNat = h := by omega
    rw [this, Nat.testBit_two_pow_self]
   ·rw [decide_eq_false e]
    exact Nat.testBit_two_pow_of_ne (by omega)
theorem cntN_zero {p : Nat → Bool} {a : Nat} : ∀ {n : Nat}, a ≤ n → (∀ i, a ≤ i → p i = false) → cntN p n = cntN p a
 | 0, h, _ => by rw [Nat.le_zero.1 h]
 | n + 1, h, hp => by
  rcases Nat.eq_or_lt_of_le h with rfl | c
  ·rfl
  ·rw [cntN, hp n (by omega), cntN_zero (n := n) (by omega) hp]
   rfl
theorem hutM_pop (hv : t.Valid) (x : Tru) (m : Int) : pop (hutM t x m t.n) = t.usedN x m := by
 have hb := hutM_bit (t := t) (x := x) (m := m) (k := t.n) fun i hi => (hv.2.2 i hi).1.1
 have h4 : t.huts.toNat ≤ 5 := by have := hv.1; omega
 unfold pop usedN
 rw [cntN_zero h4 fun i hi => ?_]
 ·exact cntN_congr fun i _ => hb i
 ·rw [hb]
  cases c : anyB (fun k => decide (t.hut k = (i : Nat)) && inI (m - (x k).2) 0 29) t.n with
  | false => rfl
  | true =>
   obtain ⟨k, hk, e⟩ := anyB_iff.1 c
   rw [Bool.and_eq_true, decide_eq_true_eq] at e
   have := (hv.2.2 k hk).1
   omega
theorem hutM_lt (hv : t.Valid) (x : Tru) (m : Int) : ∀ k, k ≤ t.n → hutM t x m k < 2 ^ 4
 | 0, _ => by simp [hutM]
 | k + 1, hk => by
  have ih := hutM_lt hv x m k (by omega)
  have := (hv.2.2 k (by omega)).1
  have h4 := hv.1
  rw [hutM]
  split
  ·exact Nat.or_lt_two_pow ih (Nat.pow_lt_pow_right (by decide) (by omega))
  ·exact ih
theorem usedN_le (x : Tru) (m : Int) : t.usedN x m ≤ t.huts.toNat := cntN_le _ _
theorem mostF_le (hv : t.Valid) (x : Tru) : ∀ k, 0 ≤ t.mostF x k ∧ t.mostF x k ≤ t.huts
 | 0 => by have := hv.1; simp only [mostF]; omega
 | k + 1 => by
  have := mostF_le hv x k
  have := usedN_le (t := t) x (x k).2
  have := hv.1
  rw [mostF]
  omega
theorem busy_le (hv : t.Valid) (hne : t.trs ≠ []) : t.busy.2 ≤ t.huts := by
 obtain ⟨x, hx, e⟩ := hull_hi (busy_is hne)
 rw [← e]
 exact (mostF_le hv x t.n).2
theorem top_ex (x : Tru) : ∀ n, 0 < n → ∃ a, a < n ∧ ∀ b, b < n → (x b).2 ≤ (x a).2
 | 1, _ => ⟨0, by decide, fun b hb => by
  have e : b = 0 := by omega
  rw [e]
  exact Int.le_refl _⟩
 | n + 2, _ => by
  obtain ⟨a, ha, H⟩ := top_ex x (n + 1) (by omega)
  by_cases c : (x a).2 ≤ (x (n + 1)).2
  ·refine ⟨n + 1, by omega, fun b hb => ?_⟩
   rcases Nat.lt_succ_iff_lt_or_eq.1 hb with d | rfl
   ·have := H b d
    omega
   ·exact Int.le_refl _
  ·refine ⟨a, by omega, fun b hb => ?_⟩
   rcases Nat.lt_succ_iff_lt_or_eq.1 hb with d | rfl
   ·exact H b d
   ·omega
theorem odd_lt (x : Tru) (hn : 0 < t.n) : t.odd x < t.n := by
 obtain ⟨a, ha, H⟩ := top_ex x t.n hn
 refine cntN_lt ha ?_
 cases h : overs t.n x a with
 | false => rfl
 | true =>
  obtain ⟨b, hb, e⟩ := overs_iff.1 h
  have := H b hb
  have := (over_iff.1 e).2
  omega
theorem wrong_hi (hne : t.trs ≠ []) : t.wrong.2 ≤ max 0 ((t.n : Int) - 1) := by
 obtain ⟨x, hx, e⟩ := hull_hi (wrong_is hne)
 rw [← e]
 rcases Nat.eq_zero_or_pos t.n with c | c
 ·have : t.odd x = 0 := by
   unfold odd
   rw [c]
   rfl
  rw [this]
  omega
 ·have := odd_lt x c
  omega
theorem true_surely {x : Tru} (hx : x ∈ t.trs) {i o : Nat} (h : (t.surely i).testBit o = true) : over x i o = true := (surely_bit.1 h).2 x hx
theorem true_perhaps {x : Tru} (hx : x ∈ t.trs) {i o : Nat} (ho : o < t.n) (h : over x i o = true) : (t.perhaps i).testBit o = true := perhaps_bit.2 ⟨ho, x, hx, h⟩
theorem true_always {x : Tru} (hx : x ∈ t.trs) {i : Nat} (h : t.turn i = 2) : overs t.n x i = false := by
 unfold turn at h
 rw [grade_two (List.ne_nil_of_mem hx)] at h
 have := h x hx
 unfold inTurn at this
 simpa using this
theorem true_never {x : Tru} (hx : x ∈ t.trs) {i : Nat} (h : t.turn i = 0) : overs t.n x i = true := by
 unfold turn at h
 rw [grade_zero (List.ne_nil_of_mem hx)] at h
 have := h x hx
 unfold inTurn at this
 simpa using this
theorem true_now {x : Tru} (hx : x ∈ t.trs) (m : Int) : (now x m t.n < 0 ∧ t.nobody m = true) ∨ (0 ≤ now x m t.n ∧ (t.whose m).testBit (now x m t.n).toNat = true) := by
 have hr := now_rng x m t.n
 by_cases c : now x m t.n < 0
 ·refine .inl ⟨c, ?_⟩
  unfold nobody
  rw [List.any_eq_true]
  exact ⟨x, hx, decide_eq_true (by omega)⟩
 ·exact .inr ⟨by omega, whose_bit.2 ⟨by omega, x, hx, by omega⟩⟩
theorem true_free {x : Tru} (hx : x ∈ t.trs) {h m : Int} : (t.freeT h m = 2 → t.used x h m = false) ∧ (t.freeT h m = 0 → t.used x h m = true) := by
 have hne := List.ne_nil_of_mem hx
 unfold freeT
 rw [grade_two hne, grade_zero hne]
 exact ⟨fun H => by simpa using H x hx, fun H => by simpa using H x hx⟩
end TK
end Tic
/-
 Contracts of the small functions of the ticket package.
-/
namespace Go.Proofs.Ytioajogaghgipaa
open Go Go.Sy Tic
set_option linter.unusedSimpArgs false
set_option maxRecDepth 100000
set_option maxHeartbeats 4000000
attribute [local irreducible] CallP CodeP Ent YieldP

/-! ### What settles duties -/
theorem ap {P : Prop} (h : P := by first | exact trivial | exact fun _ => rfl | exact rfl) : P := h
theorem fp {P : Prop} (h : P := by first | exact trivial | exact rfl | exact fun _ _ => rfl | exact fun _ _ _ _ => rfl | exact Or.inl rfl | exact Or.inr rfl) : P := h
theorem tm {P : Prop} (h : P := by first | exact trivial | exact rfl | exact congrArg (SV.int .i64) (Int.natCast_succ _).symm | exact congrArg (SV.int .u64) (Int.natCast_succ _).symm) : P := h
theorem inR_iff (n : Int) : InR .i64 n ↔ -9223372036854775808 ≤ n ∧ n ≤ 9223372036854775807 := Iff.rfl
theorem un {P : Prop} {b : Bool} (h : P) : b = true → P := fun _ => h
theorem z1 (i : Nat) : 0 + ((i : Nat) : Int).toNat = i := by omega
theorem u0 {P : Prop} (h : P) : under none P := h
theorem u1 {P : Prop} {b : Bool} (h : P) : under (some b) P := fun _ => h
theorem lt64 {k : Int} (h : k < 64) : k < ((IntKind.bits .i64 : Nat) : Int) := h
theorem om {P : Prop} (h : P := by first | omega | exact u0 (by omega) | exact u1 (by omega) | exact u1 ⟨by omega, by omega⟩ | exact un (by omega) | exact fun hh => hh | exact fun hh => absurd hh (by decide) | exact fun hh => congrArg not hh | exact fun hh => Bool.noConfusion (show true = false from hh) | exact fun hh => Bool.noConfusion (show false = true from hh)) : P := h
theorem gd {P : Prop} (h : P := by first | exact True.intro | omega | exact u1 (lt64 (by omega)) | exact u0 (lt64 (by omega)) | (show under _ _; simp [under, gB, wB]; done) | (show under _ _; simp [under, gB, wB]; omega)) : P := h

theorem g1 {c : Bool} : under none (c = true → (some (gB none (wB true c))).getD true = true) := fun h => h
theorem g1f {c : Bool} : under none (c = false → (some (gB none (wB false c))).getD true = true) := fun h => by subst h; rfl
theorem g2 {g c : Bool} : under (some g) (c = true → (some (gB (some g) (wB true c))).getD true = true) := fun h1 h2 => by subst h1; subst h2; rfl
theorem g2f {g c : Bool} : under (some g) (c = false → (some (gB (some g) (wB false c))).getD true = true) := fun h1 h2 => by subst h1; subst h2; rfl
theorem gn {G : Option Bool} {P : Prop} : under G (P → (none : Option Bool).getD true = true) := by
 cases G with
 | none => exact fun _ => rfl
 | some g => exact fun _ _ => rfl
theorem t97 (n lo hi : Int) : CallP Try.prog 97 [.int .i64 n, .int .i64 lo, .int .i64 hi] [] (Ret (.bool (inI n lo hi)) []) := by
 refine callR (E := E) E_ok Try.func97 rfl ?_
 refine And.intro ?_ ?_
 ·simp [AllP, under, gB, wB, inR_iff, IntKind.bits]
 refine ent_tau [] ⟨trivial, ⟨rfl, congrArg SV.bool ?_, trivial⟩, rfl⟩
 unfold inI
 cases decide (lo ≤ n) <;> rfl
theorem t95 (n lo hi : Int) : CallP Try.prog 95 [.int .i64 n, .int .i64 lo, .int .i64 hi] [] (Ret (.bool (inI n lo hi)) []) := by
 refine callR (E := E) E_ok Try.func95 rfl ?_
 refine And.intro ?_ ?_
 ·simp [AllP, under, gB, wB, inR_iff, IntKind.bits]
 refine ent_tau [] ⟨trivial, ⟨rfl, congrArg SV.bool ?_, trivial⟩, rfl⟩
 unfold inI
 cases decide (lo ≤ n) <;> rfl
theorem t70_true (e : Int) : CallP Try.prog 70 [.bool true, .int .i64 e] [] (Ret (.tup []) []) := by
 refine callR (E := E) E_ok Try.func70 rfl ?_
 refine And.intro ?_ (And.intro (fun h => ?_) (fun h => ?_))
 ·simp [AllP, under, gB, wB, inR_iff, IntKind.bits]
 ·simp at h
 ·refine And.intro ?_ ?_
  ·simp [AllP, under, gB, wB, inR_iff, IntKind.bits]
  ·exact ent_of [] trivial ⟨rfl, rfl, trivial⟩ rfl rfl rfl
theorem t70_false (e : Int) : CallP Try.prog 70 [.bool false, .int .i64 e] [] (Pan (.iface 126 (.agg [.int .i64 e])) []) := by
 refine callK (E := E) E_ok Try.func70 rfl ?_
 refine And.intro ?_ (And.intro (fun h => ?_) (fun h => ?_))
 ·simp [AllP, under, gB, wB, inR_iff, IntKind.bits]
 ·refine And.intro ?_ ⟨.panic (.iface 126 (.agg [.int .i64 e])), [], ⟨rfl, rfl⟩, ?_⟩
  ·simp [AllP, under, gB, wB, inR_iff, IntKind.bits]
  ·exact ent_of [] trivial ⟨rfl, rfl, trivial⟩ rfl rfl rfl
 ·simp at h
theorem must {b : Bool} {e : Int} {H : SHeap} {K : CE → SHeap → Prop} (h1 : b = true → fcH H fun H => K (.ret (.tup [])) H) (h2 : b = false → fcH H fun H => K (.panic (.iface 126 (.agg [.int .i64 e]))) H) :
  CallP Try.prog 70 [.bool b, .int .i64 e] H K := by
 cases b with
 | true =>
  refine CallP.frame (t70_true e) [] trivial (apartB_ok rfl) rfl ?_
  rintro ce h' ⟨rfl, rfl⟩
  have := h1 rfl
  rw [fcH_eq] at this
  exact ⟨ownB_ok rfl, by simpa [updH, putH, newH, renC, ren, renL] using this⟩
 | false =>
  refine CallP.frame (t70_false e) [] trivial (apartB_ok rfl) rfl ?_
  rintro ce h' ⟨rfl, rfl⟩
  have := h2 rfl
  rw [fcH_eq] at this
  exact ⟨ownB_ok rfl, by simpa [updH, putH, newH, renC, ren, renL] using this⟩
def trV (x : Tru) : List SV := [.int .i64 (x 0).1, .int .i64 (x 0).2, .int .i64 (x 1).1, .int .i64 (x 1).2, .int .i64 (x 2).1, .int .i64 (x 2).2, .int .i64 (x 3).1, .int .i64 (x 3).2, .int .i64 (x 4).1, .int .i64 (x 4).2]
def trI (x : Tru) : List Int := [(x 0).1, (x 0).2, (x 1).1, (x 1).2, (x 2).1, (x 2).2, (x 3).1, (x 3).2, (x 4).1, (x 4).2]
theorem tr_a (x : Tru) {a : Nat} (h : a < 5) (j : Nat) (hj : j = 0) : (trI x).getD (((a : Nat) : Int).toNat * 2 + j) 0 = (x a).1 := by
 subst hj
 match a, h with
 | 0, _ => rfl
 | 1, _ => rfl
 | 2, _ => rfl
 | 3, _ => rfl
 | 4, _ => rfl
theorem tr_b (x : Tru) {a : Nat} (h : a < 5) (j : Nat) (hj : j = 1) : (trI x).getD (((a : Nat) : Int).toNat * 2 + j) 0 = (x a).2 := by
 subst hj
 match a, h with
 | 0, _ => rfl
 | 1, _ => rfl
 | 2, _ => rfl
 | 3, _ => rfl
 | 4, _ => rfl
theorem t83 (a b m : Int) (h : InR .i64 (m - b)) : CallP Try.prog 83 [.agg [.int .i64 a, .int .i64 b], .int .i64 m] [] (Ret (.bool (inI (m - b) 0 29)) []) := by
 refine callR (E := E) E_ok Try.func83 rfl ?_
 (repeat' first|exact ap|refine aN ?_ ?_)
 all_goals first | exact h.1 | exact h.2 | exact u0 h | skip
 refine (t97 _ _ _).use [] ?_ trivial rfl
 (repeat' first|exact ap|refine aN ?_ ?_)
 exact ent_tau [] ⟨by (repeat' first|exact fp|refine aN ?_ ?_), by (repeat' first|exact tm|refine aN ?_ ?_), rfl⟩
theorem t68 (a b m : Int) : CallP Try.prog 68 [.agg [.int .i64 a, .int .i64 b], .int .i64 m] [] (Ret (.bool (inI m a b)) []) := by
 refine callR (E := E) E_ok Try.func68 rfl ?_
 (repeat' first|exact ap|refine aN ?_ ?_)
 refine (t97 _ _ _).use [] ?_ trivial rfl
 (repeat' first|exact ap|refine aN ?_ ?_)
 exact ent_tau [] ⟨by (repeat' first|exact fp|refine aN ?_ ?_), by (repeat' first|exact tm|refine aN ?_ ?_), rfl⟩
theorem t69 (x : Tru) (a b : Nat) (ha : a < 5) (hb : b < 5) : CallP Try.prog 69 [.agg (trV x), .int .i64 a, .int .i64 b] [] (Ret (.bool (before x a b)) []) := by
 have ea := tr_a x ha (0 + 0) rfl
 have eb := tr_a x hb (0 + 0) rfl
 refine callR (E := E) E_ok Try.func69 rfl ?_
 (repeat' first|exact ap|refine aN ?_ ?_)
 refine drawP E_ok [0] pl69_1 (by kernel_rfl) ?_
 (repeat' first|exact ap|refine aN ?_ ?_)
 all_goals first
  | exact g1
  | exact g1f
  | exact g2
  | exact g2f
  | exact gn
  | (show ((a : Nat) : Int).toNat * 2 + (0 + 1) ≤ 10; omega)
  | (show ((b : Nat) : Int).toNat * 2 + (0 + 1) ≤ 10; omega)
  | (show _ → ((a : Nat) : Int).toNat * 2 + (0 + 1) ≤ 10; intro _; omega)
  | (show _ → ((b : Nat) : Int).toNat * 2 + (0 + 1) ≤ 10; intro _; omega)
  | (show (0 : Int) ≤ _; omega)
  | (show (_ : Int) < 5; omega)
  | (show _ → (0 : Int) ≤ _; intro _; omega)
  | (show _ → (_ : Int) < 5; intro _; omega)
  | skip
 refine ent_tau [] ⟨by (repeat' first|exact fp|refine aN ?_ ?_), ⟨rfl, ?_, trivial⟩, rfl⟩
 refine congrArg SV.bool ?_
 show (bif decide ((trI x).getD (((a : Nat) : Int).toNat * 2 + (0 + 0)) 0 < (trI x).getD (((b : Nat) : Int).toNat * 2 + (0 + 0)) 0) then true else bif decide ((trI x).getD (((a : Nat) : Int).toNat * 2 + (0 + 0)) 0 = (trI x).getD (((b : Nat) : Int).toNat * 2 + (0 + 0)) 0) then decide (((a : Nat) : Int) < ((b : Nat) : Int)) else false) = before x a b
 rw [ea, eb, show decide (((a : Nat) : Int) < ((b : Nat) : Int)) = decide (a < b) from decide_eq_decide.2 Int.ofNat_lt]
 unfold before
 cases decide ((x a).1 < (x b).1) <;> cases decide ((x a).1 = (x b).1) <;> rfl
theorem t105 (x : Tru) (k : Nat) (hk : k < 5) (p : Int × Int) : CallP Try.prog 105 [.agg (trV x), .int .i64 k, .agg [.int .i64 p.1, .int .i64 p.2]] [] (Ret (.agg (trV (TK.updT x k p))) []) := by
 match k, hk with
 | 0, _ | 1, _ | 2, _ | 3, _ | 4, _ =>
  refine callR (E := E) E_ok Try.func105 rfl ?_
  (repeat' first|exact ap|refine aN ?_ ?_)
  all_goals first | exact u0 (by decide) | exact Nat.le_of_ble_eq_true rfl | skip
  exact ent_tau [] ⟨by (repeat' first|exact fp|refine aN ?_ ?_), by (repeat' first|exact tm|refine aN ?_ ?_), rfl⟩
/-! ### Tickets as they are handed over -/
def TF (t : TK) (i : Nat) : List SV := [.int .i64 (t.bl i), .int .i64 (t.bh i), .int .i64 (t.hut i), .int .i64 (t.dl i), .int .i64 (t.dh i)]
def TA (t : TK) : SV := .agg [.int .i64 t.huts, .osl t.b 0 5 t.n t.cap]
def TH (t : TK) : SHeap := [some (.roa 5 t.n (TF t))]
def tb (t : TK) : List SV := [.int .i64 t.huts, .osl t.b 0 5 t.n t.cap]
theorem t49 (t : TK) (k : Int) (hn : t.n ≤ 1000000) : CallP Try.prog 49 [TA t, .int .i64 k] (TH t) (Ret (.bool (inI k 0 ((t.n : Nat) - 1))) (TH t)) := by
 refine callR (E := E) E_ok Try.func49 rfl ?_
 (repeat' first|exact ap|refine aN ?_ ?_)
 all_goals first | exact u0 ⟨by omega, by omega⟩ | exact (inR_iff _).2 ⟨by omega, by omega⟩ | omega | skip
 refine (t97 _ _ _).use [] ?_ trivial rfl
 (repeat' first|exact ap|refine aN ?_ ?_)
 exact ent_tau [0] ⟨by (repeat' first|exact fp|refine aN ?_ ?_), by (repeat' first|exact tm|refine aN ?_ ?_), rfl⟩
theorem t66 (k : Int) : CallP Try.prog 66 [.int .i64 k] [] (Ret (.bool (inI k 0 240)) []) := by
 refine callR (E := E) E_ok Try.func66 rfl ?_
 (repeat' first|exact ap|refine aN ?_ ?_)
 refine (t97 _ _ _).use [] ?_ trivial rfl
 (repeat' first|exact ap|refine aN ?_ ?_)
 exact ent_tau [] ⟨by (repeat' first|exact fp|refine aN ?_ ?_), by (repeat' first|exact tm|refine aN ?_ ?_), rfl⟩
def spanB (lo hi : Int) : Bool := decide (0 ≤ lo) && (decide (lo ≤ hi) && (decide (hi ≤ 240) && decide (hi - lo ≤ 2)))
theorem spanB_iff {lo hi : Int} : spanB lo hi = true ↔ spanOk lo hi := by
 unfold spanB spanOk
 simp only [Bool.and_eq_true, decide_eq_true_eq]
theorem t98 (lo hi : Int) : CallP Try.prog 98 [.agg [.int .i64 lo, .int .i64 hi]] [] (Ret (.bool (spanB lo hi)) []) := by
 refine callR (E := E) E_ok Try.func98 rfl ?_
 (repeat' first|exact ap|refine aN ?_ ?_)
 all_goals first | exact g1 | exact g1f | exact g2 | exact g2f | exact gn | skip
 all_goals first | (intro hh; simp [gB, wB, Bool.and_eq_true] at hh; exact (inR_iff _).2 ⟨by omega, by omega⟩) | skip
 refine ent_tau [] ⟨by (repeat' first|exact fp|refine aN ?_ ?_), ⟨rfl, ?_, trivial⟩, rfl⟩
 refine congrArg SV.bool ?_
 unfold spanB
 cases decide (0 ≤ lo) <;> cases decide (lo ≤ hi) <;> cases decide (hi ≤ 240) <;> rfl
end Go.Proofs.Ytioajogaghgipaa
/-
 Tickets that are handed to a statement, as rows that are only read.
-/
namespace Go.Proofs.Ytioajogaghgipaa
open Go Go.Sy Tic Go.ChangeShapes Go.WideShapes Go.ChangeAt Go.RowKit
set_option maxRecDepth 100000

section
variable {H : Type} {enc : TypeId × Value → H} {w : World} {base : Nat} {sp : Nat → Bool} {held : Bool}
theorem wf64 (z : Int) (h : Lit.wf (.int .i64 z) = true) : InR .i64 z := by
 simpa [Lit.wf, InR, IntKind.min, IntKind.max, IntKind.signed, IntKind.bits] using h
theorem it3 : IntT enc Try.prog w base sp held .i64 3 1 := IntT.int wf64 Try.underlying3 (by kernel_rfl)
theorem wf16 (z : Int) (h : Lit.wf (.int .u16 z) = true) : InR .u16 z := by
 simpa [Lit.wf, InR, IntKind.min, IntKind.max, IntKind.signed, IntKind.bits] using h
theorem it121 : IntT enc Try.prog w base sp held .u16 121 1 := IntT.int wf16 Try.underlying121 (by kernel_rfl)
theorem it28 : IntT enc Try.prog w base sp held .i64 28 2 := IntT.two Try.underlying28 it3 it3 rfl rfl (by kernel_rfl)
theorem it57 : IntT enc Try.prog w base sp held .i64 57 5 := IntT.three (n := 2) (m := 1) (k := 2) Try.underlying57 it28 it3 it28 rfl rfl rfl (by kernel_rfl)

theorem partOpen {kd : IntKind} {t e : TypeId} {sz : Nat} {v : Value} {d : DataW H} {ps : List MemPlace} {r : Reach} {b0 : Nat} (ht : Try.prog.underlying t = some (.slice e)) (he : IntT enc Try.prog w base sp held kd e sz)
  (h0 : ∃ cs T fz, w.heap[0]? = some (.cells cs T fz)) (hval : Cell.okWide Try.prog w r b0 t v) {fuel : Nat} (h : DataW.trod enc Try.prog w base sp held fuel t [v] = some (d, ps)) :
  ∃ (b : Bool) (a : Nat × Nat) (n c : Nat), (b = false → n = 0) ∧ (n ≤ c ∧ c ≤ 9223372036854775807) ∧ n ≤ 9223372036854775807 ∧ (∀ (η : Nam) i, η i = some a → den η (.osl b i sz n c) = some v) ∧ ∃ cs T fz, w.heap[a.1]? = some (.cells cs T fz) ∧ ∀ k, k < n → ∀ j, j < sz → cs[a.2 + (k * sz + j)]? = some (.int kd (cellI kd w a (k * sz + j))) := by
 rcases sliceOpen ht he hval h with rfl | ⟨a, n, c, rfl, h3, h4, cs, T, fz, h1, h2⟩
 ·obtain ⟨cs, T, fz, h1⟩ := h0
  exact ⟨false, (0, 0), 0, 0, fun _ => rfl, by omega, by omega, fun η i _ => by simp [den], cs, T, fz, h1, fun k hk => by omega⟩
 ·exact ⟨true, a, n, c, fun q => Bool.noConfusion q, by omega, by omega, fun η i hi => by simp [den, hi], cs, T, fz, h1, h2⟩
structure NumsIn (kd : IntKind) (w : World) (v : Value) (n : Nat) (p : Nat → Int) (b : Bool) (c : Nat) (a : Nat × Nat) : Prop where
 len : n ≤ 9223372036854775807
 rng : ∀ k, InR kd (p k)
 den : ∀ (η : Nam) i, η i = some a → den η (.osl b i 1 n c) = some v
 row : ∀ (η : Nam) F, (SObj.roa 1 n fun k => [.int kd (p k)]).holds η a F w
theorem numsOpen {kd : IntKind} {t e : TypeId} {v : Value} {d : DataW H} {ps : List MemPlace} {r : Reach} {b0 : Nat} (ht : Try.prog.underlying t = some (.slice e)) (he : IntT enc Try.prog w base sp held kd e 1)
  (h0 : ∃ cs T fz, w.heap[0]? = some (.cells cs T fz)) (hval : Cell.okWide Try.prog w r b0 t v) {fuel : Nat} (h : DataW.trod enc Try.prog w base sp held fuel t [v] = some (d, ps)) :
  ∃ n p b c a, NumsIn kd w v n p b c a := by
 obtain ⟨b, a, n, c, _, _, hl, hd, cs, T, fz, h1, h2⟩ := partOpen ht he h0 hval h
 refine ⟨n, fun k => cellI kd w a k, b, c, a, hl, fun k => cellI_ok _ _ _ _, hd, fun η F => ⟨cs, T, fz, h1, fun k hk => ⟨_, rfl, rfl, fun j v hj => ?_⟩⟩⟩
 match j, hj with
 | 0, hj =>
  cases hj
  have := h2 k hk 0 (by omega)
  simpa using this
theorem numsOpenV {kd : IntKind} {t e : TypeId} {v : Value} {d : DataW H} {ps : List MemPlace} {r : Reach} {b0 : Nat} (ht : Try.prog.underlying t = some (.slice e)) (he : IntT enc Try.prog w base sp held kd e 1)
  (h0 : ∃ cs T fz, w.heap[0]? = some (.cells cs T fz)) (hval : Value.okWide Try.prog w r b0 t v) (h : DataW.Trod enc Try.prog w base sp held t v d ps) : ∃ n p b c a, NumsIn kd w v n p b c a := by
 unfold Value.okWide at hval
 rw [ht] at hval
 obtain ⟨fuel, h⟩ := h
 have hval : Cell.okWide Try.prog w r b0 t v := hval
 have e1 : v.cells.toList = [v] := by
  have hq := hval
  unfold Cell.okWide at hq
  rw [ht] at hq
  unfold Cell.ok at hq
  rw [ht] at hq
  cases v <;> first | rfl | exact hq.elim
 rw [e1] at h
 exact numsOpen ht he h0 hval h
theorem den_two {η : Nam} {x y : SV} {a b : Value} (hx : den η x = some a) (hy : den η y = some b) : den η (.agg [x, y]) = some (.agg #[a, b]) := by
 simp [den, denL, hx, hy]
structure TkIn (w : World) (v : Value) (t : TK) (a : Nat × Nat) : Prop where
 huts : InR .i64 t.huts
 rng : ∀ k, InR .i64 (t.bl k) ∧ InR .i64 (t.bh k) ∧ InR .i64 (t.hut k) ∧ InR .i64 (t.dl k) ∧ InR .i64 (t.dh k)
 len : t.n ≤ 9223372036854775807
 nb : t.b = false → t.n = 0
 nc : t.n ≤ t.cap ∧ t.cap ≤ 9223372036854775807
 den : ∀ η : Nam, η 0 = some a → den η (TA t) = some v
 row : ∀ (η : Nam) F, (SObj.roa 5 t.n (TF t)).holds η a F w
theorem tkOpen {v : Value} {d : DataW H} {ps : List MemPlace} {r : Reach} {b0 : Nat} (h0 : ∃ cs T fz, w.heap[0]? = some (.cells cs T fz)) (hval : Value.okWide Try.prog w r b0 24 v)
  (h : DataW.Trod enc Try.prog w base sp held 24 v d ps) : ∃ t a, TkIn w v t a := by
 unfold Value.okWide at hval
 rw [Try.underlying24] at hval
 obtain ⟨cs, rfl, hsz, ts, hts, _, hc⟩ := hval
 have e1 : Try.prog.cellsOf 24 = 2 := by kernel_rfl
 have e2 : Try.prog.cellTypes Try.prog.depth 24 = some [3, 22] := by kernel_rfl
 have e3 : Try.prog.cellsOf 3 = 1 := by kernel_rfl
 have e4 : Try.prog.cellsOf 22 = 1 := by kernel_rfl
 rw [e1] at hsz
 rw [e2] at hts
 cases hts
 obtain ⟨fuel, h⟩ := h
 obtain ⟨v0, v1, rfl⟩ : ∃ v0 v1, cs = #[v0, v1] := by
  obtain ⟨l⟩ := cs
  match l, hsz with
  | [a, b], _ => exact ⟨a, b, rfl⟩
 obtain ⟨xs, n, rfl, hx, _, hlen, hf⟩ := DataW.trod_struct Try.underlying24 h
 have hlen' : xs.length = 2 := hlen
 have f0 : DataW.trod enc Try.prog w base sp held n 3 (([v0, v1].drop 0).take (Try.prog.cellsOf 3)) = xs[0]? := hf 0 _ rfl
 rw [e3, List.getElem?_eq_getElem (by omega)] at f0
 have f1 : DataW.trod enc Try.prog w base sp held n 22 (([v0, v1].drop 1).take (Try.prog.cellsOf 22)) = xs[1]? := hf 1 _ rfl
 rw [e4, List.getElem?_eq_getElem (by omega)] at f1
 obtain ⟨u1, hu1, w1⟩ := hc 1 v1 rfl
 cases hu1
 obtain ⟨zs, z1, z2, z3⟩ := (it3 (enc := enc) (w := w) (base := base) (sp := sp) (held := held)).2 _ _ _ f0
 obtain ⟨z, rfl⟩ : ∃ z, zs = [z] := by
  match zs, z1 with
  | [z], _ => exact ⟨z, rfl⟩
 have ev : v0 = .int .i64 z := by simpa using z3
 subst ev
 obtain ⟨b, a, m, c, hb0, hnc, hl, hd, cs, T, fz, h1, h2⟩ := partOpen Try.underlying22 it57 h0 w1 f1
 refine ⟨⟨z, m, fun k => cellI .i64 w a (k * 5), fun k => cellI .i64 w a (k * 5 + 1), fun k => cellI .i64 w a (k * 5 + 2), fun k => cellI .i64 w a (k * 5 + 3), fun k => cellI .i64 w a (k * 5 + 4), b, c⟩, a, z2 z (by simp), fun k => ⟨cellI_ok _ _ _ _, cellI_ok _ _ _ _, cellI_ok _ _ _ _, cellI_ok _ _ _ _, cellI_ok _ _ _ _⟩, hl, hb0, hnc, fun η q => den_two rfl (hd η 0 q), fun η F => ⟨cs, T, fz, h1, fun k hk => ⟨_, rfl, rfl, fun j v hj => ?_⟩⟩⟩
 match j, hj with
 | 0, hj => cases hj; exact h2 k hk 0 (by omega)
 | 1, hj => cases hj; exact h2 k hk 1 (by omega)
 | 2, hj => cases hj; exact h2 k hk 2 (by omega)
 | 3, hj => cases hj; exact h2 k hk 3 (by omega)
 | 4, hj => cases hj; exact h2 k hk 4 (by omega)
theorem cells0 (h : w.ShapedOpen Try.prog) : ∃ cs T fz, w.heap[0]? = some (.cells cs T fz) := by
 obtain ⟨_, h2⟩ := h
 obtain ⟨o, o0, e1, e2, e3⟩ := h2 0 (Nat.le_of_eq (by kernel_rfl)) (Nat.lt_of_lt_of_eq (show 0 < 5 by omega) (Eq.symm (by kernel_rfl)))
 have e4 : (if World.looseAt (0 - Try.prog.globals.size) = true then o.alike o0 else o = o0) = (o = o0) := by kernel_rfl
 rw [e4] at e3
 subst e3
 have e5 : (((begin Try.prog (fun _ _ => 0) default).world.heap[0]?).map fun o => match o with | .cells _ _ _ => true | _ => false) = some true := by kernel_rfl
 rw [e2] at e5
 cases o with
 | cells cs T fz => exact ⟨cs, T, fz, e1⟩
 | _ => cases e5
end
theorem sat1 {w : World} {v : Value} {t : TK} {a : Nat × Nat} (hh : TkIn w v t a) : Sat (fun j => [a][j]?) (fun _ _ => False) (TH t) w (fun _ => False) w := by
 refine satRo _ rfl ?_ ?_
 ·intro i x hx
  match i, hx with
  | 0, hx => cases hx; exact ⟨_, rfl, rfl⟩
 ·intro i o a ho ha
  match i, ho, ha with
  | 0, ho, ha => cases ho; cases ha; exact hh.row _ _
theorem satN {w : World} {v1 : Value} {a1 : Nat × Nat} {kd : IntKind} {n c : Nat} {p : Nat → Int} {b : Bool} (h1 : NumsIn kd w v1 n p b c a1) : Sat (fun j => [a1][j]?) (fun _ _ => False) [some (.roa 1 n fun k => [.int kd (p k)])] w (fun _ => False) w := by
 refine satRo _ rfl ?_ ?_
 ·intro i x hx
  match i, hx with
  | 0, hx => cases hx; exact ⟨_, rfl, rfl⟩
 ·intro i o a ho ha
  match i, ho, ha with
  | 0, ho, ha => cases ho; cases ha; exact h1.row _ _
end Go.Proofs.Ytioajogaghgipaa
/-
 Plain law of tickets, part 9.
-/
namespace Tic
set_option linter.unusedVariables false

/-! ### Tickets sorted by their huts -/
def befo (K : Nat → Int) (a b : Nat) : Prop := K a < K b ∨ K a = K b ∧ a < b
def swp (o : Nat → Nat) (j : Nat) : Nat → Nat := fun k => if k = j then o (j - 1) else if k = j - 1 then o j else o k
def insF (lt : Nat → Nat → Bool) : Nat → (Nat → Nat) → (Nat → Nat)
 | 0, o => o
 | j + 1, o => match lt (o (j + 1)) (o j) with
  | true => insF lt j (swp o (j + 1))
  | false => o
def ltK (K : Nat → Int) (a b : Nat) : Bool := decide (K a < K b)
def srtF (K : Nat → Int) : Nat → (Nat → Nat)
 | 0 => id
 | i + 1 => insF (ltK K) i (srtF K i)
theorem insF_ok {K : Nat → Int} {x i : Nat} : ∀ (j : Nat) (o : Nat → Nat), j ≤ i → o j = x → (∀ a b, a < b → b ≤ i → a ≠ j → b ≠ j → befo K (o a) (o b)) → (∀ b, j < b → b ≤ i → befo K x (o b)) → (∀ a, a ≤ i → a ≠ j → o a < x) →
  (∀ a b, a < b → b ≤ i → befo K (insF (ltK K) j o a) (insF (ltK K) j o b)) ∧ (∀ k, i < k → insF (ltK K) j o k = o k) ∧ ∀ y, (∃ k, k ≤ i ∧ insF (ltK K) j o k = y) ↔ ∃ k, k ≤ i ∧ o k = y
 | 0, o, _, hx, h1, h2, h3 => by
  refine ⟨fun a b hab hb => ?_, fun _ _ => rfl, fun _ => Iff.rfl⟩
  simp only [insF]
  by_cases ha : a = 0
  ·subst ha
   rw [hx]
   exact h2 b hab hb
  ·exact h1 a b hab hb ha (by omega)
 | j + 1, o, hj, hx, h1, h2, h3 => by
  cases hlt : ltK K (o (j + 1)) (o j) with
  | true =>
   have ei : insF (ltK K) (j + 1) o = insF (ltK K) j (swp o (j + 1)) := by simp only [insF, hlt]
   rw [ei]
   simp only [ltK, decide_eq_true_eq, hx] at hlt
   have e1 : swp o (j + 1) (j + 1) = o j := by simp [swp]
   have e2 : swp o (j + 1) j = x := by
    simp only [swp, if_neg (show ¬ j = j + 1 by omega), Nat.add_sub_cancel, if_true]
    exact hx
   have e3 : ∀ k, k ≠ j → k ≠ j + 1 → swp o (j + 1) k = o k := fun k a b => by
    simp only [swp, if_neg b, Nat.add_sub_cancel, if_neg a]
   obtain ⟨r1, r2, r3⟩ := insF_ok (K := K) (x := x) (i := i) j (swp o (j + 1)) (by omega) e2 (fun a b hab hb ha hb2 => by
    by_cases c1 : a = j + 1
    ·subst c1
     rw [e1, e3 b hb2 (by omega)]
     exact h1 j b (by omega) hb (by omega) (by omega)
    ·rw [e3 a ha c1]
     by_cases c2 : b = j + 1
     ·subst c2
      rw [e1]
      exact h1 a j (by omega) (by omega) c1 (by omega)
     ·rw [e3 b hb2 c2]
      exact h1 a b hab hb c1 c2) (fun b hb hb2 => by
    by_cases c : b = j + 1
    ·subst c
     rw [e1]
     exact .inl hlt
    ·rw [e3 b (by omega) c]
     exact h2 b (by omega) hb2) (fun a ha haj => by
    by_cases c : a = j + 1
    ·subst c
     rw [e1]
     exact h3 j (by omega) (by omega)
    ·rw [e3 a haj c]
     exact h3 a ha c)
   refine ⟨r1, fun k hk => ?_, fun y => (r3 y).trans ?_⟩
   ·rw [r2 k hk, e3 k (by omega) (by omega)]
   ·constructor
    ·rintro ⟨k, hk, e⟩
     by_cases c : k = j
     ·subst c
      rw [e2] at e
      exact ⟨k + 1, hj, by rw [hx]; exact e⟩
     ·by_cases c2 : k = j + 1
      ·subst c2
       rw [e1] at e
       exact ⟨j, by omega, e⟩
      ·rw [e3 k c c2] at e
       exact ⟨k, hk, e⟩
    ·rintro ⟨k, hk, e⟩
     by_cases c : k = j
     ·subst c
      exact ⟨k + 1, hj, by rw [e1]; exact e⟩
     ·by_cases c2 : k = j + 1
      ·subst c2
       rw [hx] at e
       exact ⟨j, by omega, by rw [e2]; exact e⟩
      ·exact ⟨k, hk, by rw [e3 k c c2]; exact e⟩
  | false =>
   have ei : insF (ltK K) (j + 1) o = o := by simp only [insF, hlt]
   rw [ei]
   simp only [ltK, decide_eq_false_iff_not, hx] at hlt
   refine ⟨fun a b hab hb => ?_, fun _ _ => rfl, fun _ => Iff.rfl⟩
   by_cases c1 : a = j + 1
   ·subst c1
    rw [hx]
    exact h2 b hab hb
   ·by_cases c2 : b = j + 1
    ·subst c2
     rw [hx]
     have h4 := h3 a (by omega) c1
     have h5 : K (o a) ≤ K (o j) := by
      by_cases c3 : a = j
      ·rw [c3]
       exact Int.le_refl _
      ·rcases h1 a j (by omega) (by omega) c1 (by omega) with h | h <;> omega
     by_cases c4 : K (o a) < K x
     ·exact .inl c4
     ·exact .inr ⟨by omega, h4⟩
    ·exact h1 a b hab hb c1 c2
theorem srtF_ok (K : Nat → Int) : ∀ i, (∀ a b, a < b → b < i → befo K (srtF K i a) (srtF K i b)) ∧ (∀ k, i ≤ k → srtF K i k = k) ∧ ∀ y, (∃ k, k < i ∧ srtF K i k = y) ↔ y < i
 | 0 => ⟨fun a b _ h => by omega, fun _ _ => rfl, fun y => ⟨fun ⟨k, h, _⟩ => by omega, fun h => by omega⟩⟩
 | i + 1 => by
  obtain ⟨h1, h2, h3⟩ := srtF_ok K i
  obtain ⟨r1, r2, r3⟩ := insF_ok (K := K) (x := i) (i := i) i (srtF K i) (Nat.le_refl i) (h2 i (Nat.le_refl i)) (fun a b hab hb _ hb2 => h1 a b hab (by omega)) (fun b hb hb2 => by omega) (fun a ha hai => (h3 _).1 ⟨a, by omega, rfl⟩)
  refine ⟨fun a b hab hb => r1 a b hab (by omega), fun k hk => (r2 k (by omega)).trans (h2 k (by omega)), fun y => ⟨fun ⟨k, hk, e⟩ => ?_, fun hy => ?_⟩⟩
  ·obtain ⟨k2, h4, h5⟩ := (r3 y).1 ⟨k, by omega, e⟩
   by_cases c : k2 = i
   ·rw [c, h2 i (Nat.le_refl i)] at h5
    omega
   ·have := (h3 y).1 ⟨k2, by omega, h5⟩
    omega
  ·have : ∃ k, k ≤ i ∧ srtF K i k = y := by
    by_cases c : y = i
    ·exact ⟨i, Nat.le_refl i, by rw [h2 i (Nat.le_refl i), c]⟩
    ·obtain ⟨k, h4, h5⟩ := (h3 y).2 (by omega)
     exact ⟨k, by omega, h5⟩
   obtain ⟨k, h4, h5⟩ := (r3 y).2 this
   exact ⟨k, by omega, h5⟩

namespace TK
def ordL (t : TK) : List Nat := (List.range t.n).map (srtF t.hut t.n)
theorem ordL_get (t : TK) {k : Nat} (hk : k < t.n) : t.ordL.getD k 0 = srtF t.hut t.n k := by
 unfold ordL
 rw [List.getD_eq_getElem?_getD, List.getElem?_eq_getElem (by simpa using hk)]
 simp
theorem ordL_ok (t : TK) : Order t.n t.ordL := by
 obtain ⟨h1, _, h3⟩ := srtF_ok t.hut t.n
 refine ⟨by simp [ordL], ?_, fun k hk => ?_, fun k hk => ?_⟩
 ·unfold ordL
  rw [List.Nodup, List.pairwise_map]
  refine List.Pairwise.imp_of_mem (R := fun a b => a < b) ?_ List.pairwise_lt_range
  intro a b ha hb hab e
  have hb' := List.mem_range.1 hb
  rcases h1 a b hab hb' with c | c
  ·rw [e] at c
   omega
  ·rw [e] at c
   omega
 ·unfold ordL at hk
  obtain ⟨j, hj, e⟩ := List.mem_map.1 hk
  exact (h3 k).1 ⟨j, List.mem_range.1 hj, e⟩
 ·obtain ⟨j, hj, e⟩ := (h3 k).2 hk
  exact List.mem_map.2 ⟨j, List.mem_range.2 hj, e⟩
end TK
end Tic
/-
 Contracts: tickets are sorted by their huts.
-/
namespace Go.Proofs.Ytioajogaghgipaa
open Go Go.Sy Tic
set_option linter.unusedSimpArgs false
set_option maxRecDepth 100000
set_option maxHeartbeats 4000000
attribute [local irreducible] CallP CodeP Ent YieldP

theorem t100 (t : TK) (hv : t.Valid) (a b : Nat) (ha : a < t.n) (hb : b < t.n) : CallP Try.prog 100 [.int .i64 a, .int .i64 b, .ptr 1 0] (TH t ++ [some (.roc (tb t))]) (Ret (.int .i64 (t.hut a - t.hut b)) (TH t ++ [some (.roc (tb t))])) := by
 have ea := z1 a
 have eb := z1 b
 have oa := (hv.2.2 a ha).1
 have ob := (hv.2.2 b hb).1
 have h4 := hv.1
 refine callR (E := E) E_ok Try.func100 rfl ?_
 (repeat' first|exact ap|refine aN ?_ ?_)
 refine drawP E_ok [] pl100_1 (by kernel_rfl) ?_
 (repeat' first|exact ap|refine aN ?_ ?_)
 all_goals first | exact om | (rw [ea]; omega) | (rw [eb]; omega) | (rw [ea, eb]; exact (inR_iff _).2 ⟨by omega, by omega⟩) | (show under none _; rw [ea, eb]; exact (inR_iff _).2 ⟨by omega, by omega⟩) | skip
 all_goals first | (rw [ea, eb]; omega) | skip
 refine ent_tau [0, 1] ⟨by (repeat' first|exact fp|refine aN ?_ ?_), ⟨rfl, ?_, trivial⟩, rfl⟩
 exact congrArg (SV.int .i64) (by rw [ea, eb])
theorem insF_yes {K : Nat → Int} {o : Nat → Nat} {j : Nat} (h : K (o (j + 1)) < K (o j)) : insF (ltK K) (j + 1) o = insF (ltK K) j (swp o (j + 1)) := by
 simp only [insF, ltK, decide_eq_true h]
theorem insF_no {K : Nat → Int} {o : Nat → Nat} {j : Nat} (h : ¬ K (o (j + 1)) < K (o j)) : insF (ltK K) (j + 1) o = o := by
 simp only [insF, ltK, decide_eq_false h]
def rowO (o : Nat → Nat) (k : Nat) : List SV := [.int .i64 ((o k : Nat) : Int)]
theorem swp_row (o : Nat → Nat) {a b j : Nat} (ha : a = j + 1) (hb : b = j) (k : Nat) :
  selL (decide (k = b)) (splice (selL (decide (b = a)) (splice (rowO o a) 0 (rowO o b)) (rowO o b)) 0 (rowO o a)) (selL (decide (k = a)) (splice (rowO o a) 0 (rowO o b)) (rowO o k)) = rowO (swp o (j + 1)) k := by
 subst ha hb
 have s1 : ∀ x y, splice (rowO o x) 0 (rowO o y) = rowO o y := fun x y => rfl
 rw [decide_eq_false (show ¬ b = b + 1 by omega), selL_false, s1, s1]
 by_cases c1 : k = b
 ·subst c1
  rw [decide_eq_true rfl, selL_true]
  unfold rowO swp
  rw [if_neg (by omega), Nat.add_sub_cancel, if_pos rfl]
 ·rw [decide_eq_false c1, selL_false]
  by_cases c2 : k = b + 1
  ·subst c2
   rw [decide_eq_true rfl, selL_true]
   unfold rowO swp
   rw [if_pos rfl, Nat.add_sub_cancel]
  ·rw [decide_eq_false c2, selL_false]
   unfold rowO swp
   rw [if_neg c2, Nat.add_sub_cancel, if_neg c1]
def plsw : Plan := .eager 14 <| .alt 15 (.eager 16 <| .alt 17 .done .no) .no
def pl116_6s : Plan := eg [0, 1, 2, 3, 4, 5, 6, 7, 8, 10, 11, 12] <| .alt 9 (.alt 13 plsw .no) (.alt 13 (.alt 9 plsw .no) .no)
def HO (t : TK) (cap : Nat) (o : Nat → Nat) : SHeap := [some (.arr 1 t.n cap (rowO o)), some (.roa 5 t.n (TF t)), some (.roc [.int .i64 t.huts, .osl t.b 1 5 t.n t.cap])]
theorem swp_lt {o : Nat → Nat} {n j : Nat} (h : ∀ k, k < n → o k < n) (hj : j + 1 < n) : ∀ k, k < n → swp o (j + 1) k < n := fun k hk => by
 unfold swp
 split
 ·exact h _ (by omega)
 ·split
  ·exact h _ hj
  ·exact h k hk
theorem t116 (t : TK) (hv : t.Valid) (cap : Nat) : CallP Try.prog 116 [.slice 0 1 0 t.n cap, .int .i64 0, .int .i64 t.n, .fn (.func 100) [] [.ptr 2 0]] (HO t cap id) (Ret (.tup []) (HO t cap (srtF t.hut t.n))) := by
 have hn := hv.2.1
 refine callR (E := E) E_ok Try.func116 rfl ?_
 (repeat' first|exact ap|refine aN ?_ ?_)
 all_goals first | exact om | skip
 refine loopP E_ok [0, 1, 2, 3] (fun i : Nat => [(8, .int .i64 i)]) (fun i _ => HO t cap (srtF t.hut i)) (fun i => 1 ≤ i ∧ (i ≤ t.n ∨ i = 1)) (fun i => t.n - i) 1 ⟨Nat.le_refl _, .inr rfl⟩ ?_ ?_
 ·exact ent_tau [0, 1, 2] ⟨by (repeat' first|exact fp|refine aN ?_ ?_), by (repeat' first|exact tm|refine aN ?_ ?_), rfl⟩
 rintro i ⟨h1, hi⟩
 refine And.intro ?_ (And.intro (fun hc => ?_) (fun hc => ?_))
 ·(repeat' first|exact ap|refine aN ?_ ?_)
 ·have hlt : i < t.n := by
   have := of_decide_eq_true hc
   omega
  have hol : ∀ k, k < t.n → srtF t.hut i k < t.n := fun k hk => by
   obtain ⟨_, s2, s3⟩ := srtF_ok t.hut i
   rcases Nat.lt_or_ge k i with c | c
   ·have := (s3 _).1 ⟨k, c, rfl⟩
    omega
   ·rw [s2 k c]
    exact hk
  (repeat' first|exact ap|refine aN ?_ ?_)
  all_goals first | exact om | skip
  refine loopP E_ok [0, 1, 2, 3, 8] (fun g : Nat × (Nat → Nat) => [(9, .int .i64 g.1)]) (fun g _ => HO t cap g.2) (fun g => g.1 ≤ i ∧ (∀ k, k < t.n → g.2 k < t.n) ∧ insF (ltK t.hut) g.1 g.2 = srtF t.hut (i + 1)) (fun g => g.1) (i, srtF t.hut i) ⟨Nat.le_refl _, hol, rfl⟩ ?_ ?_
  ·exact ent_tau [0, 1, 2] ⟨by (repeat' first|exact fp|refine aN ?_ ?_), by (repeat' first|exact tm|refine aN ?_ ?_), rfl⟩
  rintro ⟨j, o⟩ ⟨hj, hlo, ho⟩
  simp only at hj hlo ho
  rcases j with _ | j
  ·refine And.intro trivial ?_
   refine drawP E_ok [0] pl116_4 (by kernel_rfl) ?_
   refine And.intro (And.intro ?_ (And.intro (fun hg => ?_) (fun hg => ?_))) trivial
   ·(repeat' first|exact ap|refine aN ?_ ?_)
    all_goals first | exact om | (intro hh; simp [gB, wB] at hh; done)
   ·simp [gB, wB] at hg
   (repeat' first|exact ap|refine aN ?_ ?_)
   all_goals first | exact om | (intro hx; simp at hx; done) | skip
   intro _
   have ho2 : o = srtF t.hut (i + 1) := ho
   subst ho2
   (repeat' first|exact ap|refine aN ?_ ?_)
   all_goals first | exact om | skip
   refine ⟨i + 1, ⟨by omega, .inl hlt⟩, by omega, ?_⟩
   exact ent_tau [0, 1, 2] ⟨by (repeat' first|exact fp|refine aN ?_ ?_), by (repeat' first|exact tm|refine aN ?_ ?_), rfl⟩
  ·have e1 : 0 + ((j + 1 : Nat) : Int).toNat = j + 1 := by omega
   have e2 : 0 + (((j + 1 : Nat) : Int) - 1).toNat = j := by omega
   have c100 := t100 t hv (o (0 + ((j + 1 : Nat) : Int).toNat)) (o (0 + (((j + 1 : Nat) : Int) - 1).toNat)) (by rw [e1]; exact hlo _ (by omega)) (by rw [e2]; exact hlo _ (by omega))
   refine And.intro trivial ?_
   refine drawP E_ok [0] pl116_4 (by kernel_rfl) ?_
   refine And.intro (And.intro ?_ (And.intro (fun hg => ?_) (fun hg => ?_))) trivial
   ·(repeat' first|exact ap|refine aN ?_ ?_)
    all_goals first | exact om | skip
   ·refine c100.use [1, 2] ?_ (by (repeat' first|exact fp|refine aN ?_ ?_)) rfl
    (repeat' first|exact ap|refine aN ?_ ?_)
    all_goals first | exact om | exact fun _ => hg | exact fun _ _ => hg | skip
    ·intro hx
     have hx3 : (bif decide (((j + 1 : Nat) : Int) > 0) then decide (t.hut (o (0 + ((j + 1 : Nat) : Int).toNat)) - t.hut (o (0 + (((j + 1 : Nat) : Int) - 1).toNat)) < 0) else false) = true := hx
     rw [decide_eq_true (show ((j + 1 : Nat) : Int) > 0 by omega), e1, e2] at hx3
     have hx4 := of_decide_eq_true hx3
     rw [insF_yes (by omega)] at ho
     (repeat' first|exact ap|refine aN ?_ ?_)
     refine drawP E_ok [] pl116_6s (by kernel_rfl) ?_
     (repeat' first|exact ap|refine aN ?_ ?_)
     all_goals first | exact om | skip
     all_goals refine ⟨(j, swp o (j + 1)), ⟨by simp only; omega, swp_lt hlo (by omega), ho⟩, by simp only; omega, ?_⟩
     all_goals refine ent_tau [0, 1, 2] ⟨?_, ?_, rfl⟩
     all_goals first | (repeat' first|exact fp|refine aN ?_ ?_) | skip
     all_goals first | exact congrArg (SV.int .i64) (show (((j + 1 : Nat)) : Int) - 1 = (j : Int) by omega) | exact fun k _ => swp_row o e1 e2 k
    ·intro hx
     have hx3 : (bif decide (((j + 1 : Nat) : Int) > 0) then decide (t.hut (o (0 + ((j + 1 : Nat) : Int).toNat)) - t.hut (o (0 + (((j + 1 : Nat) : Int) - 1).toNat)) < 0) else false) = false := hx
     rw [decide_eq_true (show ((j + 1 : Nat) : Int) > 0 by omega), e1, e2] at hx3
     have hx4 := of_decide_eq_false hx3
     rw [insF_no (by omega)] at ho
     subst ho
     (repeat' first|exact ap|refine aN ?_ ?_)
     all_goals first | exact om | skip
     refine ⟨i + 1, ⟨by omega, .inl hlt⟩, by omega, ?_⟩
     exact ent_tau [0, 1, 2] ⟨by (repeat' first|exact fp|refine aN ?_ ?_), by (repeat' first|exact tm|refine aN ?_ ?_), rfl⟩
   ·exfalso
    simp [gB, wB] at hg
    try omega
 ·have e : t.n ≤ i := by
   have := of_decide_eq_false hc
   omega
  have e3 : srtF t.hut i = srtF t.hut t.n := by
   rcases hi with c | c
   ·rw [show i = t.n by omega]
   ·have : t.n = 0 ∨ t.n = 1 := by omega
    rcases this with c2 | c2
    ·rw [c, c2]
     rfl
    ·rw [c, c2]
  (repeat' first|exact ap|refine aN ?_ ?_)
  refine ent_tau [0, 1, 2] ⟨?_, by (repeat' first|exact tm|refine aN ?_ ?_), rfl⟩
  rw [e3]
  (repeat' first|exact fp|refine aN ?_ ?_)
theorem t112 (t : TK) (hv : t.Valid) (cap : Nat) : CallP Try.prog 112 [.slice 0 1 0 t.n cap, .int .i64 t.n, .fn (.func 100) [] [.ptr 2 0]] (HO t cap id) (Ret (.tup []) (HO t cap (srtF t.hut t.n))) := by
 have hn := hv.2.1
 refine callR (E := E) E_ok Try.func112 rfl ?_
 (repeat' first|exact ap|refine aN ?_ ?_)
 refine loopP E_ok [0, 1, 2, 6, 7] (fun _ : Unit => [(8, .int .i64 20)]) (fun _ H => H) (fun _ => True) (fun _ => 0) () trivial ?_ ?_
 ·exact ent_tau [0, 1, 2] ⟨by (repeat' first|exact fp|refine aN ?_ ?_), by (repeat' first|exact tm|refine aN ?_ ?_), rfl⟩
 rintro _ _
 refine And.intro ?_ (And.intro (fun hc => ?_) (fun hc => ?_))
 ·(repeat' first|exact ap|refine aN ?_ ?_)
 ·exfalso
  have := of_decide_eq_true hc
  omega
 (repeat' first|exact ap|refine aN ?_ ?_)
 refine (t116 t hv cap).use [0, 1, 2] ?_ (by (repeat' first|exact fp|refine aN ?_ ?_)) rfl
 (repeat' first|exact ap|refine aN ?_ ?_)
 refine loopP E_ok [0, 1, 2] (fun _ : Unit => [(6, .int .i64 20)]) (fun _ H => H) (fun _ => True) (fun _ => 0) () trivial ?_ ?_
 ·exact ent_tau [0, 1, 2] ⟨by (repeat' first|exact fp|refine aN ?_ ?_), by (repeat' first|exact tm|refine aN ?_ ?_), rfl⟩
 rintro _ _
 refine And.intro ?_ (And.intro (fun hc2 => ?_) (fun hc2 => ?_))
 ·(repeat' first|exact ap|refine aN ?_ ?_)
 ·exfalso
  have := of_decide_eq_true hc2
  omega
 (repeat' first|exact ap|refine aN ?_ ?_)
 exact ent_tau [0, 1, 2] ⟨by (repeat' first|exact fp|refine aN ?_ ?_), by (repeat' first|exact tm|refine aN ?_ ?_), rfl⟩
theorem t99 (t : TK) (hv : t.Valid) (cap : Nat) : CallP Try.prog 99 [.slice 0 1 0 t.n cap, .fn (.func 100) [] [.ptr 2 0]] (HO t cap id) (Ret (.tup []) (HO t cap (srtF t.hut t.n))) := by
 refine callR (E := E) E_ok Try.func99 rfl ?_
 (repeat' first|exact ap|refine aN ?_ ?_)
 refine (t112 t hv cap).use [0, 1, 2] ?_ (by (repeat' first|exact fp|refine aN ?_ ?_)) rfl
 (repeat' first|exact ap|refine aN ?_ ?_)
 exact ent_tau [0, 1, 2] ⟨by (repeat' first|exact fp|refine aN ?_ ?_), by (repeat' first|exact tm|refine aN ?_ ?_), rfl⟩
theorem t116n : CallP Try.prog 116 [.snil, .int .i64 0, .int .i64 0, .fn (.func 100) [] [.ptr 0 0]] [some .dead] (Ret (.tup []) [some .dead]) := by
 refine callR (E := E) E_ok Try.func116 rfl ?_
 (repeat' first|exact ap|refine aN ?_ ?_)
 all_goals first | exact om | skip
 refine loopP E_ok [0, 1, 2, 3] (fun _ : Unit => [(8, .int .i64 1)]) (fun _ H => H) (fun _ => True) (fun _ => 0) () trivial ?_ ?_
 ·exact ent_tau [0] ⟨by (repeat' first|exact fp|refine aN ?_ ?_), by (repeat' first|exact tm|refine aN ?_ ?_), rfl⟩
 rintro _ _
 refine And.intro ?_ (And.intro (fun hc => ?_) (fun hc => ?_))
 ·(repeat' first|exact ap|refine aN ?_ ?_)
 ·exfalso
  have := of_decide_eq_true hc
  omega
 (repeat' first|exact ap|refine aN ?_ ?_)
 exact ent_tau [0] ⟨by (repeat' first|exact fp|refine aN ?_ ?_), by (repeat' first|exact tm|refine aN ?_ ?_), rfl⟩
theorem t112n : CallP Try.prog 112 [.snil, .int .i64 0, .fn (.func 100) [] [.ptr 0 0]] [some .dead] (Ret (.tup []) [some .dead]) := by
 refine callR (E := E) E_ok Try.func112 rfl ?_
 (repeat' first|exact ap|refine aN ?_ ?_)
 refine loopP E_ok [0, 1, 2, 6, 7] (fun _ : Unit => [(8, .int .i64 20)]) (fun _ H => H) (fun _ => True) (fun _ => 0) () trivial ?_ ?_
 ·exact ent_tau [0] ⟨by (repeat' first|exact fp|refine aN ?_ ?_), by (repeat' first|exact tm|refine aN ?_ ?_), rfl⟩
 rintro _ _
 refine And.intro ?_ (And.intro (fun hc => ?_) (fun hc => ?_))
 ·(repeat' first|exact ap|refine aN ?_ ?_)
 ·exfalso
  have := of_decide_eq_true hc
  omega
 (repeat' first|exact ap|refine aN ?_ ?_)
 refine t116n.use [0] ?_ (by (repeat' first|exact fp|refine aN ?_ ?_)) rfl
 (repeat' first|exact ap|refine aN ?_ ?_)
 refine loopP E_ok [0, 1, 2] (fun _ : Unit => [(6, .int .i64 20)]) (fun _ H => H) (fun _ => True) (fun _ => 0) () trivial ?_ ?_
 ·exact ent_tau [0] ⟨by (repeat' first|exact fp|refine aN ?_ ?_), by (repeat' first|exact tm|refine aN ?_ ?_), rfl⟩
 rintro _ _
 refine And.intro ?_ (And.intro (fun hc2 => ?_) (fun hc2 => ?_))
 ·(repeat' first|exact ap|refine aN ?_ ?_)
 ·exfalso
  have := of_decide_eq_true hc2
  omega
 (repeat' first|exact ap|refine aN ?_ ?_)
 exact ent_tau [0] ⟨by (repeat' first|exact fp|refine aN ?_ ?_), by (repeat' first|exact tm|refine aN ?_ ?_), rfl⟩
theorem t99n : CallP Try.prog 99 [.snil, .fn (.func 100) [] [.ptr 0 0]] [some .dead] (Ret (.tup []) [some .dead]) := by
 refine callR (E := E) E_ok Try.func99 rfl ?_
 (repeat' first|exact ap|refine aN ?_ ?_)
 refine t112n.use [0] ?_ (by (repeat' first|exact fp|refine aN ?_ ?_)) rfl
 (repeat' first|exact ap|refine aN ?_ ?_)
 exact ent_tau [0] ⟨by (repeat' first|exact fp|refine aN ?_ ?_), by (repeat' first|exact tm|refine aN ?_ ?_), rfl⟩
end Go.Proofs.Ytioajogaghgipaa
