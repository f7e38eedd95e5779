/-
  Parts: P3, P4, Sy31, Ua, Ub.
-/
import Derived.Test.YtgofhjihkinknaaK14
import Derived.Test.YtgofhjihkinknaaK11
set_option linter.unusedVariables false
/-
  Contracts: which moves can follow which ones.
-/
namespace Go.Proofs.Ytgofhjihkinknaa
open Go Go.Sy Kuhn
set_option linter.unusedSimpArgs false
set_option maxRecDepth 100000
set_option maxHeartbeats 4000000
attribute [local irreducible] CallP CodeP Ent YieldP
attribute [local irreducible] HD.ch maskO

/-- Seven numbers. -/
def chI (f : Nat → Int) : List SV := [.int .u64 (f 0), .int .u64 (f 1), .int .u64 (f 2), .int .u64 (f 3), .int .u64 (f 4), .int .u64 (f 5), .int .u64 (f 6)]
theorem chI_eq {f g : Nat → Int} (h : ∀ m, m < 7 → f m = g m) : chI f = chI g := by
  simp only [chI, h 0 (by decide), h 1 (by decide), h 2 (by decide), h 3 (by decide), h 4 (by decide), h 5 (by decide), h 6 (by decide)]
theorem get7 (f : Nat → Int) : ∀ m, m < 7 → [f 0, f 1, f 2, f 3, f 4, f 5, f 6].getD m 0 = f m
  | 0, _ => rfl
  | 1, _ => rfl
  | 2, _ => rfl
  | 3, _ => rfl
  | 4, _ => rfl
  | 5, _ => rfl
  | 6, _ => rfl
  | m + 7, h => by omega
theorem unF {A B : Int} {S T : Nat} (hA : A = S) (hB : B = T) : ∀ k, k < 2 → getOf 1 [.int .u64 A, .int .u64 B] k = un2 S T k
  | 0, _ => by rw [hA, hB]; rfl
  | 1, _ => by rw [hA, hB]; rfl
  | k + 2, h => by omega
theorem pow_int (k : Nat) : (1 : Int) * 2 ^ ((k : Nat) : Int).toNat = ((2 ^ k : Nat) : Int) := by
  rw [Int.one_mul, Int.toNat_natCast]
  push_cast
  rfl
theorem mask_lt7 (f : Nat → Bool) {k : Nat} (hk : k ≤ 7) : maskO f k < 128 := Nat.lt_of_lt_of_le (maskO_lt f k) (Nat.pow_le_pow_right (n := 2) (by omega) hk)
theorem maskO_zero (f : Nat → Bool) : maskO f 0 = 0 := by simp [maskO]
theorem maskO_yes {f : Nat → Bool} {k : Nat} (h : f k = true) : maskO f (k + 1) = maskO f k ||| 2 ^ k := by simp [maskO, h]
theorem maskO_no {f : Nat → Bool} {k : Nat} (h : f k = false) : maskO f (k + 1) = maskO f k := by simp [maskO, h]
/-- How far the chart is. -/
def cf (h : HD) (s : Bool) (i k j : Nat) : Int := if j < i then (h.ch s j : Nat) else if j = i then (maskO (fun k => h.can s i k) k : Nat) else 0
theorem cf_done {h : HD} {s : Bool} {i : Nat} (hi : i < h.n) (j : Nat) : cf h s i h.n j = cf h s (i + 1) 0 j := by
  unfold cf
  rcases Nat.lt_trichotomy j i with c | c | c
  · rw [if_pos c, if_pos (by omega)]
  · subst c
    rw [if_neg (by omega), if_pos rfl, if_pos (by omega)]
    unfold HD.ch
    rw [decide_eq_true hi]
  · rw [if_neg (by omega), if_neg (by omega), if_neg (by omega), maskO_zero]
    split <;> rfl
theorem cf_at {h : HD} {s : Bool} {i k : Nat} : cf h s i k i = (maskO (fun k => h.can s i k) k : Nat) := by
  unfold cf
  rw [if_neg (by omega), if_pos rfl]
theorem cf_yes {h : HD} {s : Bool} {i k : Nat} (hc : h.can s i k = true) (m : Nat) : (if m = ((i : Nat) : Int).toNat then ((maskO (fun k => h.can s i k) k ||| 2 ^ k : Nat) : Int) else cf h s i k m) = cf h s i (k + 1) m := by
  rw [Int.toNat_natCast]
  unfold cf
  by_cases c : m = i
  · subst c
    rw [if_pos rfl, if_neg (by omega), if_pos rfl, maskO_yes hc]
  · rw [if_neg c]
    by_cases c2 : m < i
    · rw [if_pos c2, if_pos c2]
    · rw [if_neg c2, if_neg c2, if_neg c, if_neg c]
theorem cf_no {h : HD} {s : Bool} {i k : Nat} (hc : h.can s i k = false) (m : Nat) : cf h s i k m = cf h s i (k + 1) m := by
  unfold cf
  by_cases c2 : m < i
  · rw [if_pos c2, if_pos c2]
  · rw [if_neg c2, if_neg c2]
    by_cases c : m = i
    · rw [if_pos c, if_pos c, maskO_no hc]
    · rw [if_neg c, if_neg c]
theorem cf_zero {h : HD} {s : Bool} (m : Nat) : 0 = cf h s 0 0 m := by
  unfold cf
  rw [if_neg (by omega), maskO_zero]
  split <;> rfl
theorem cf_all {h : HD} {s : Bool} (m : Nat) : cf h s h.n 0 m = (h.ch s m : Nat) := by
  unfold cf
  by_cases c : m < h.n
  · rw [if_pos c]
  · rw [if_neg c, maskO_zero]
    unfold HD.ch
    rw [decide_eq_false c]
    split <;> rfl
def pl50_8s : Plan := .eager 0 <| .eager 1 <| .eager 2 <| .eager 4 <| .eager 5 <| .alt 3 (.alt 6 (.alt 7 (.eager 8 <| .alt 9 .done .no) .no) .no) .no
def bc (h : HD) : List SV := [.int .i64 h.pace, .osl h.b 0 4 h.n h.cap]
theorem t50 (h : HD) (hv : h.Valid) (s : Bool) : CallP Try.prog 50 [HD.A h, tr s] (HD.H h) (Ret (.agg (chI fun j => (h.ch s j : Nat))) (HD.H h)) := by
  have hn := hv.2.1
  refine callR (E := E) E_ok Try.func50 rfl ?_
  refine And.intro ?_ ?_
  · simp [AllP, under, gB, wB, inR_iff, IntKind.bits]
  refine loopP E_ok [1, 2, 4, 11, 12] (fun i : Nat => [(13, .int .i64 i)]) (fun i _ => HD.H h ++ [some (.cells (bc h)), some (.cells (chI (cf h s i 0)))]) (fun i => i ≤ h.n) (fun i => h.n - i) 0 (Nat.zero_le _) ?_ ?_
  · refine ent_tau [0, 1, 2] ⟨?_, by (repeat' (first | exact trivial | exact rfl | exact congrArg (SV.int .i64) (Int.natCast_succ _).symm | exact congrArg (SV.int .u64) (Int.natCast_succ _).symm | refine And.intro ?_ ?_)), rfl⟩
    (repeat' (first | exact trivial | exact rfl | exact fun _ _ => rfl | exact Or.inl rfl | refine And.intro ?_ ?_))
    exact chI_eq (f := fun _ => 0) fun m _ => cf_zero m
  rintro i hi
  have ei := z1 i
  refine And.intro ?_ (And.intro (fun hc => ?_) (fun hc => ?_))
  · simp [AllP, under, gB, wB, inR_iff, IntKind.bits]
  · have hlt : i < h.n := by
      have := of_decide_eq_true hc
      omega
    have mi := hv.2.2 (0 + ((i : Nat) : Int).toNat) (by omega)
    unfold HD.okMv at mi
    refine And.intro ?_ ?_
    · (repeat' (first | exact trivial | exact fun _ => rfl | exact rfl | refine And.intro ?_ ?_))
      all_goals (first | omega | exact u0 (by omega) | exact u1 (by omega) | exact u1 ⟨by omega, by omega⟩ | exact un (by omega) | exact fun hh => hh | exact fun hh => absurd hh (by decide) | exact fun hh => congrArg not hh | exact fun hh => Bool.noConfusion (show true = false from hh) | exact fun hh => Bool.noConfusion (show false = true from hh))
    refine loopP E_ok [1, 2, 4, 5, 6, 11, 12, 13, 20, 21] (fun k : Nat => [(22, .int .i64 k)]) (fun k _ => HD.H h ++ [some (.cells (bc h)), some (.cells (chI (cf h s i k))), some (.cells (HD.F h (0 + ((i : Nat) : Int).toNat)))]) (fun k => k ≤ h.n) (fun k => h.n - k) 0 (Nat.zero_le _) ?_ ?_
    · exact ent_tau [0, 1, 2, 3] ⟨by (repeat' (first | exact trivial | exact rfl | exact fun _ _ => rfl | exact Or.inl rfl | refine And.intro ?_ ?_)), by (repeat' (first | exact trivial | exact rfl | exact congrArg (SV.int .i64) (Int.natCast_succ _).symm | exact congrArg (SV.int .u64) (Int.natCast_succ _).symm | refine And.intro ?_ ?_)), rfl⟩
    rintro k hk
    have ek := z1 k
    refine And.intro ?_ (And.intro (fun hc2 => ?_) (fun hc2 => ?_))
    · simp [AllP, under, gB, wB, inR_iff, IntKind.bits]
    · have hlk : k < h.n := by
        have := of_decide_eq_true hc2
        omega
      have mk := hv.2.2 (0 + ((k : Nat) : Int).toNat) (by omega)
      unfold HD.okMv at mk
      refine And.intro ?_ ?_
      · (repeat' (first | exact trivial | exact fun _ => rfl | exact rfl | refine And.intro ?_ ?_))
        all_goals (first | omega | exact u0 (by omega) | exact u1 (by omega) | exact u1 ⟨by omega, by omega⟩ | exact un (by omega) | exact fun hh => hh | exact fun hh => absurd hh (by decide) | exact fun hh => congrArg not hh | exact fun hh => Bool.noConfusion (show true = false from hh) | exact fun hh => Bool.noConfusion (show false = true from hh))
      refine drawP E_ok [1, 3, 4] pl50_7 (by kernel_rfl) ?_
      refine And.intro (And.intro ?_ ?_) trivial
      · (repeat' (first | exact trivial | exact fun _ => rfl | exact rfl | refine And.intro ?_ ?_))
      refine (t81 h hv s (h.at' (0 + ((i : Nat) : Int).toNat)) ⟨by omega, by omega⟩ i k hlt hlk).use [0] ?_ (by (repeat' (first | exact trivial | exact rfl | exact fun _ _ => rfl | exact Or.inl rfl | refine And.intro ?_ ?_))) rfl
      have ecan : decide (h.there s (h.at' (0 + ((i : Nat) : Int).toNat)) i k ≤ h.at' (0 + ((k : Nat) : Int).toNat)) = h.can s i k := by
        rw [ei, ek]
        rfl
      refine And.intro ?_ ?_
      · (repeat' (first | exact trivial | exact fun _ => rfl | exact rfl | refine And.intro ?_ ?_))
      refine And.intro rfl ?_
      have ml := mask_lt7 (fun k => h.can s i k) (k := k) (by omega)
      refine And.intro ?_ (And.intro (fun hcan => ?_) (fun hcan => ?_))
      · (repeat' (first | exact trivial | exact fun _ => rfl | exact rfl | refine And.intro ?_ ?_))
      · rw [ecan] at hcan
        refine And.intro trivial ?_
        have pk := pow_int k
        have pk0 : (0 : Int) ≤ 1 * 2 ^ ((k : Nat) : Int).toNat := by rw [pk]; exact Int.natCast_nonneg _
        have p2 : 2 ^ k < 2 ^ 7 := Nat.pow_lt_pow_right (by omega) (by omega)
        have hA : [cf h s i k 0, cf h s i k 1, cf h s i k 2, cf h s i k 3, cf h s i k 4, cf h s i k 5, cf h s i k 6].getD ((i : Nat) : Int).toNat 0 = (maskO (fun k => h.can s i k) k : Nat) := by
          rw [Int.toNat_natCast, get7 (cf h s i k) i (by omega), cf_at]
        have hf := unF hA pk
        refine drawP E_ok [] pl50_8s (by kernel_rfl) ?_
        (repeat' (first | exact trivial | exact fun _ => rfl | exact rfl | refine And.intro ?_ ?_))
        all_goals first | (first | omega | exact u0 (by omega) | exact u1 (by omega) | exact u1 ⟨by omega, by omega⟩ | exact un (by omega) | exact fun hh => hh | exact fun hh => absurd hh (by decide) | exact fun hh => congrArg not hh | exact fun hh => Bool.noConfusion (show true = false from hh) | exact fun hh => Bool.noConfusion (show false = true from hh)) | exact pk0 | (rw [pk]; omega) | exact u0 (show ((k : Nat) : Int) < 64 by omega) | skip
        refine (t82 (maskO (fun k => h.can s i k) k) (2 ^ k) (Nat.lt_trans ml (by decide)) (Nat.lt_trans p2 (by decide))).use [5] ?_ (by (first | exact ⟨⟨rfl, rfl, hf⟩, trivial⟩ | exact ⟨⟨rfl, rfl, fun k hk => hf k hk⟩, trivial⟩)) rfl
        (repeat' (first | exact trivial | exact fun _ => rfl | exact rfl | refine And.intro ?_ ?_))
        all_goals first | (first | omega | exact u0 (by omega) | exact u1 (by omega) | exact u1 ⟨by omega, by omega⟩ | exact un (by omega) | exact fun hh => hh | exact fun hh => absurd hh (by decide) | exact fun hh => congrArg not hh | exact fun hh => Bool.noConfusion (show true = false from hh) | exact fun hh => Bool.noConfusion (show false = true from hh)) | skip
        refine ⟨k + 1, hlk, by omega, ?_⟩
        refine ent_tau [0, 1, 2, 3] ⟨?_, by (repeat' (first | exact trivial | exact rfl | exact congrArg (SV.int .i64) (Int.natCast_succ _).symm | exact congrArg (SV.int .u64) (Int.natCast_succ _).symm | refine And.intro ?_ ?_)), rfl⟩
        (repeat' (first | exact trivial | exact rfl | exact fun _ _ => rfl | exact Or.inl rfl | refine And.intro ?_ ?_))
        exact chI_eq (f := fun m => if m = ((i : Nat) : Int).toNat then ((maskO (fun k => h.can s i k) k ||| 2 ^ k : Nat) : Int) else cf h s i k m) fun m _ => cf_yes hcan m
      · rw [ecan] at hcan
        (repeat' (first | exact trivial | exact fun _ => rfl | exact rfl | refine And.intro ?_ ?_))
        all_goals first | (first | omega | exact u0 (by omega) | exact u1 (by omega) | exact u1 ⟨by omega, by omega⟩ | exact un (by omega) | exact fun hh => hh | exact fun hh => absurd hh (by decide) | exact fun hh => congrArg not hh | exact fun hh => Bool.noConfusion (show true = false from hh) | exact fun hh => Bool.noConfusion (show false = true from hh)) | skip
        refine ⟨k + 1, hlk, by omega, ?_⟩
        refine ent_tau [0, 1, 2, 3] ⟨?_, by (repeat' (first | exact trivial | exact rfl | exact congrArg (SV.int .i64) (Int.natCast_succ _).symm | exact congrArg (SV.int .u64) (Int.natCast_succ _).symm | refine And.intro ?_ ?_)), rfl⟩
        (repeat' (first | exact trivial | exact rfl | exact fun _ _ => rfl | exact Or.inl rfl | refine And.intro ?_ ?_))
        exact chI_eq fun m _ => cf_no hcan m
    · have e : k = h.n := by
        have := of_decide_eq_false hc2
        omega
      subst e
      (repeat' (first | exact trivial | exact fun _ => rfl | exact rfl | refine And.intro ?_ ?_))
      all_goals first | (first | omega | exact u0 (by omega) | exact u1 (by omega) | exact u1 ⟨by omega, by omega⟩ | exact un (by omega) | exact fun hh => hh | exact fun hh => absurd hh (by decide) | exact fun hh => congrArg not hh | exact fun hh => Bool.noConfusion (show true = false from hh) | exact fun hh => Bool.noConfusion (show false = true from hh)) | skip
      refine ⟨i + 1, hlt, by omega, ?_⟩
      refine ent_tau [0, 1, 2] ⟨?_, by (repeat' (first | exact trivial | exact rfl | exact congrArg (SV.int .i64) (Int.natCast_succ _).symm | exact congrArg (SV.int .u64) (Int.natCast_succ _).symm | refine And.intro ?_ ?_)), rfl⟩
      (repeat' (first | exact trivial | exact rfl | exact fun _ _ => rfl | exact Or.inl rfl | refine And.intro ?_ ?_))
      exact chI_eq fun m _ => cf_done hlt m
  · have e : i = h.n := by
      have := of_decide_eq_false hc
      omega
    subst e
    (repeat' (first | exact trivial | exact fun _ => rfl | exact rfl | refine And.intro ?_ ?_))
    refine ent_tau [0] ⟨by (repeat' (first | exact trivial | exact rfl | exact fun _ _ => rfl | exact Or.inl rfl | refine And.intro ?_ ?_)), ⟨rfl, ?_, trivial⟩, rfl⟩
    exact congrArg SV.agg (chI_eq fun m hm => cf_all m)
end Go.Proofs.Ytgofhjihkinknaa
/-
  Contracts: how many moves a set has.
-/
namespace Go.Proofs.Ytgofhjihkinknaa
open Go Go.Sy Kuhn
set_option linter.unusedSimpArgs false
set_option maxRecDepth 100000
set_option maxHeartbeats 4000000
attribute [local irreducible] CallP CodeP Ent YieldP

def oc1 (x : Int) : Int := IntKind.wrap .u64 (bitOp .and .u64 (x.fdiv (2 ^ (1 : Int).toNat)) 6148914691236517205 + bitOp .and .u64 x 6148914691236517205)
def oc2 (x : Int) : Int := IntKind.wrap .u64 (bitOp .and .u64 (x.fdiv (2 ^ (2 : Int).toNat)) 3689348814741910323 + bitOp .and .u64 x 3689348814741910323)
def oc3 (x : Int) : Int := bitOp .and .u64 (IntKind.wrap .u64 (x.fdiv (2 ^ (4 : Int).toNat) + x)) 1085102592571150095
def oc4 (x : Int) : Int := IntKind.wrap .u64 (x + x.fdiv (2 ^ (8 : Int).toNat))
def oc5 (x : Int) : Int := IntKind.wrap .u64 (x + x.fdiv (2 ^ (16 : Int).toNat))
def oc6 (x : Int) : Int := IntKind.wrap .u64 (x + x.fdiv (2 ^ (32 : Int).toNat))
def oc7 (x : Int) : Int := bitOp .and .i64 (IntKind.wrap .i64 x) 127
theorem t102 (x : Int) : CallP Try.prog 102 [.int .u64 x] [] (Ret (.int .i64 (oc7 (oc6 (oc5 (oc4 (oc3 (oc2 (oc1 x)))))))) []) := by
  refine callR (E := Ew) Ew_ok Try.func102 rfl ?_
  (repeat' (first | exact trivial | exact fun _ => rfl | exact rfl | refine And.intro ?_ ?_))
  all_goals first | exact u0 (by decide) | skip
  exact ent_tau [] ⟨by (repeat' (first | exact trivial | exact rfl | exact fun _ _ => rfl | exact Or.inl rfl | refine And.intro ?_ ?_)), by (repeat' (first | exact trivial | exact rfl | exact congrArg (SV.int .i64) (Int.natCast_succ _).symm | exact congrArg (SV.int .u64) (Int.natCast_succ _).symm | refine And.intro ?_ ?_)), rfl⟩
theorem oc_ok : ∀ S : Fin 128, oc7 (oc6 (oc5 (oc4 (oc3 (oc2 (oc1 ((S : Nat) : Int))))))) = ((pop S : Nat) : Int) := by decide +kernel
theorem t102p (S : Nat) (hS : S < 128) : CallP Try.prog 102 [.int .u64 S] [] (Ret (.int .i64 (pop S : Nat)) []) := by
  have := t102 (S : Int)
  rw [oc_ok ⟨S, hS⟩] at this
  exact this
theorem t98 (S : Nat) (hS : S < 128) : CallP Try.prog 98 [.int .u64 S] [] (Ret (.int .i64 (pop S : Nat)) []) := by
  refine callR (E := E) E_ok Try.func98 rfl ?_
  (repeat' (first | exact trivial | exact fun _ => rfl | exact rfl | refine And.intro ?_ ?_))
  · exact fun h => absurd h (by decide)
  intro _
  (repeat' (first | exact trivial | exact fun _ => rfl | exact rfl | refine And.intro ?_ ?_))
  refine (t102p S hS).use [] ?_ (by (repeat' (first | exact trivial | exact rfl | exact fun _ _ => rfl | exact Or.inl rfl | refine And.intro ?_ ?_))) rfl
  (repeat' (first | exact trivial | exact fun _ => rfl | exact rfl | refine And.intro ?_ ?_))
  exact ent_tau [] ⟨by (repeat' (first | exact trivial | exact rfl | exact fun _ _ => rfl | exact Or.inl rfl | refine And.intro ?_ ?_)), by (repeat' (first | exact trivial | exact rfl | exact congrArg (SV.int .i64) (Int.natCast_succ _).symm | exact congrArg (SV.int .u64) (Int.natCast_succ _).symm | refine And.intro ?_ ?_)), rfl⟩
theorem t92 (S : Nat) (hS : S < 128) : CallP Try.prog 92 [.int .u64 S] [] (Ret (.int .i64 (pop S : Nat)) []) := by
  refine callR (E := E) E_ok Try.func92 rfl ?_
  (repeat' (first | exact trivial | exact fun _ => rfl | exact rfl | refine And.intro ?_ ?_))
  refine (t98 S hS).use [] ?_ (by (repeat' (first | exact trivial | exact rfl | exact fun _ _ => rfl | exact Or.inl rfl | refine And.intro ?_ ?_))) rfl
  (repeat' (first | exact trivial | exact fun _ => rfl | exact rfl | refine And.intro ?_ ?_))
  exact ent_tau [] ⟨by (repeat' (first | exact trivial | exact rfl | exact fun _ _ => rfl | exact Or.inl rfl | refine And.intro ?_ ?_)), by (repeat' (first | exact trivial | exact rfl | exact congrArg (SV.int .i64) (Int.natCast_succ _).symm | exact congrArg (SV.int .u64) (Int.natCast_succ _).symm | refine And.intro ?_ ?_)), rfl⟩
theorem pow_lt7 {k : Nat} (hk : k < 7) : 2 ^ k < 128 := Nat.pow_lt_pow_right (n := 7) (by omega) hk
theorem t67 (h : HD) (hn : h.n ≤ 7) : CallP Try.prog 67 [HD.A h] (HD.H h) (Ret (.int .u64 (h.every : Nat)) (HD.H h)) := by
  have pk := pow_int h.n
  have p1 := Nat.pow_pos (n := h.n) (show 0 < 2 by omega)
  have p2 : 2 ^ h.n ≤ 2 ^ 7 := Nat.pow_le_pow_right (by omega) hn
  have pe : (1 : Int) * 2 ^ ((h.n : Nat) : Int).toNat - 1 = ((h.every : Nat) : Int) := by
    rw [pk]
    unfold HD.every
    omega
  have p3 := HD.every_lt hn
  have pk0 : (0 : Int) ≤ 1 * 2 ^ ((h.n : Nat) : Int).toNat := by rw [pk]; exact Int.natCast_nonneg _
  refine callR (E := E) E_ok Try.func67 rfl ?_
  (repeat' (first | exact trivial | exact fun _ => rfl | exact rfl | refine And.intro ?_ ?_))
  all_goals first | (first | omega | exact u0 (by omega) | exact u1 (by omega) | exact u1 ⟨by omega, by omega⟩ | exact un (by omega) | exact fun hh => hh | exact fun hh => absurd hh (by decide) | exact fun hh => congrArg not hh | exact fun hh => Bool.noConfusion (show true = false from hh) | exact fun hh => Bool.noConfusion (show false = true from hh)) | exact pk0 | (rw [pk]; omega) | (rw [pe]; omega) | exact u0 (show ((h.n : Nat) : Int) < 64 by omega) | skip
  refine ent_tau [0] ⟨by (repeat' (first | exact trivial | exact rfl | exact fun _ _ => rfl | exact Or.inl rfl | refine And.intro ?_ ?_)), ⟨rfl, ?_, trivial⟩, rfl⟩
  exact congrArg (SV.int .u64) pe
theorem t51c (f : Nat → Nat) (hf : ∀ j, j < 7 → f j < 128) (i k : Nat) (hi : i < 7) (hk : k < 7) :
    CallP Try.prog 51 [.int .u64 ([((f 0 : Nat) : Int), (f 1 : Nat), (f 2 : Nat), (f 3 : Nat), (f 4 : Nat), (f 5 : Nat), (f 6 : Nat)].getD ((i : Nat) : Int).toNat 0), .int .i64 k] [] (Ret (.bool ((f i).testBit k)) []) := by
  have e := get7 (fun j => ((f j : Nat) : Int)) i hi
  rw [Int.toNat_natCast]
  refine e.symm ▸ ?_
  exact t51 (f i) (Nat.lt_trans (hf i hi) (by decide)) k ⟨by omega, by omega⟩
theorem t57 (f : Nat → Nat) (hf : ∀ j, j < 7 → f j < 128) (i k : Nat) (hi : i < 7) (hk : k < 7) :
    CallP Try.prog 57 [.agg (chI fun j => (f j : Nat)), .int .i64 i, .int .i64 k] [] (Ret (.bool (!(f i).testBit k && !(f k).testBit i)) []) := by
  refine callR (E := E) E_ok Try.func57 rfl ?_
  (repeat' (first | exact trivial | exact fun _ => rfl | exact rfl | refine And.intro ?_ ?_))
  all_goals first | (first | omega | exact u0 (by omega) | exact u1 (by omega) | exact u1 ⟨by omega, by omega⟩ | exact un (by omega) | exact fun hh => hh | exact fun hh => absurd hh (by decide) | exact fun hh => congrArg not hh | exact fun hh => Bool.noConfusion (show true = false from hh) | exact fun hh => Bool.noConfusion (show false = true from hh)) | skip
  refine (t51c f hf i k hi hk).use [] ?_ trivial rfl
  cases (f i).testBit k with
  | true =>
    refine And.intro ?_ (And.intro (fun hg => absurd hg (by decide)) (fun hg => ?_))
    · (repeat' (first | exact trivial | exact fun _ => rfl | exact rfl | refine And.intro ?_ ?_))
      all_goals first | (first | omega | exact u0 (by omega) | exact u1 (by omega) | exact u1 ⟨by omega, by omega⟩ | exact un (by omega) | exact fun hh => hh | exact fun hh => absurd hh (by decide) | exact fun hh => congrArg not hh | exact fun hh => Bool.noConfusion (show true = false from hh) | exact fun hh => Bool.noConfusion (show false = true from hh)) | skip
    · (repeat' (first | exact trivial | exact fun _ => rfl | exact rfl | refine And.intro ?_ ?_))
      all_goals first | (first | omega | exact u0 (by omega) | exact u1 (by omega) | exact u1 ⟨by omega, by omega⟩ | exact un (by omega) | exact fun hh => hh | exact fun hh => absurd hh (by decide) | exact fun hh => congrArg not hh | exact fun hh => Bool.noConfusion (show true = false from hh) | exact fun hh => Bool.noConfusion (show false = true from hh)) | skip
      exact ent_tau [] ⟨by (repeat' (first | exact trivial | exact rfl | exact fun _ _ => rfl | exact Or.inl rfl | refine And.intro ?_ ?_)), by (repeat' (first | exact trivial | exact rfl | exact congrArg (SV.int .i64) (Int.natCast_succ _).symm | exact congrArg (SV.int .u64) (Int.natCast_succ _).symm | refine And.intro ?_ ?_)), rfl⟩
  | false =>
    refine And.intro ?_ (And.intro (fun hg => ?_) (fun hg => absurd hg (by decide)))
    · (repeat' (first | exact trivial | exact fun _ => rfl | exact rfl | refine And.intro ?_ ?_))
      all_goals first | (first | omega | exact u0 (by omega) | exact u1 (by omega) | exact u1 ⟨by omega, by omega⟩ | exact un (by omega) | exact fun hh => hh | exact fun hh => absurd hh (by decide) | exact fun hh => congrArg not hh | exact fun hh => Bool.noConfusion (show true = false from hh) | exact fun hh => Bool.noConfusion (show false = true from hh)) | skip
    · refine (t51c f hf k i hk hi).use [] ?_ trivial rfl
      (repeat' (first | exact trivial | exact fun _ => rfl | exact rfl | refine And.intro ?_ ?_))
      all_goals first | (first | omega | exact u0 (by omega) | exact u1 (by omega) | exact u1 ⟨by omega, by omega⟩ | exact un (by omega) | exact fun hh => hh | exact fun hh => absurd hh (by decide) | exact fun hh => congrArg not hh | exact fun hh => Bool.noConfusion (show true = false from hh) | exact fun hh => Bool.noConfusion (show false = true from hh)) | skip
      exact ent_tau [] ⟨by (repeat' (first | exact trivial | exact rfl | exact fun _ _ => rfl | exact Or.inl rfl | refine And.intro ?_ ?_)), by (repeat' (first | exact trivial | exact rfl | exact congrArg (SV.int .i64) (Int.natCast_succ _).symm | exact congrArg (SV.int .u64) (Int.natCast_succ _).symm | refine And.intro ?_ ?_)), rfl⟩
end Go.Proofs.Ytgofhjihkinknaa
/-
  Sy31: a block that is owned goes by a new name; rows that lie in it are said by the new one. No program is named.
-/
namespace Go.Sy
open Go
/-- Temporaries that denote the same, under these names. -/
def TmEqN (η : Nam) : Tm → Tm → Prop
  | [], [] => True
  | _ :: xs, none :: ys => TmEqN η xs ys
  | some (g, v) :: xs, some (g', v') :: ys => g = g' ∧ den η v = den η v' ∧ TmEqN η xs ys
  | _, _ => False
theorem TmEqN.get {η : Nam} : ∀ {S T : Tm}, TmEqN η S T → S.length = T.length ∧ ∀ (k : Nat) (g : Option Bool) (v : SV), T[k]? = some (some (g, v)) → ∃ u, S[k]? = some (some (g, u)) ∧ den η u = den η v
  | [], [], _ => ⟨rfl, fun k g v h => by simp at h⟩
  | x :: xs, none :: ys, h => by
    obtain ⟨a, b⟩ := TmEqN.get (S := xs) (T := ys) (by cases x <;> exact h)
    refine ⟨by simp [a], fun k g v hk => ?_⟩
    cases k with
    | zero => simp at hk
    | succ k => simpa using b k g v (by simpa using hk)
  | some (g, v) :: xs, some (g', v') :: ys, h => by
    obtain ⟨h1, h2, h3⟩ := h
    obtain ⟨a, b⟩ := TmEqN.get h3
    refine ⟨by simp [a], fun k g2 v2 hk => ?_⟩
    cases k with
    | zero =>
      simp only [List.getElem?_cons_zero, Option.some.injEq, Prod.mk.injEq] at hk
      obtain ⟨rfl, rfl⟩ := hk
      exact ⟨v, by rw [h1]; rfl, h2⟩
    | succ k => simpa using b k g2 v2 (by simpa using hk)
theorem TmEqN.rel {η : Nam} {T T' : Tm} {tm : Array Value} (h : TmEqN η T T') (hT : TRel η T tm) : TRel η T' tm := by
  obtain ⟨hl, hg⟩ := h.get
  refine ⟨hT.1.trans hl, fun k g sv hk => ?_⟩
  obtain ⟨u, h1, h2⟩ := hg k g sv hk
  obtain ⟨a1, a2⟩ := hT.2 k g u h1
  exact ⟨fun hgd => by rw [← h2]; exact a1 hgd, a2⟩
/-- A block that is owned goes by a new name. -/
theorem Sat.rename {η : Nam} {φ : Feet} {h : SHeap} {w0 w : World} {Ef : Nat → Prop} (s : Sat η φ h w0 Ef w) {i : Nat} {o : SObj} {ai : Nat × Nat} (hi : h[i]? = some (some o)) (hai : η i = some ai) (hrw : o.rw = true) :
    η.le (η.put h.length ai) ∧ Sat (η.put h.length ai) (fun k => if k = h.length then φ i else φ k) ((h.set i (some .dead)) ++ [some o]) w0 Ef w := by
  have s1 := s.less (o' := .dead) hi (fun _ _ hb => hb.elim) (fun hr => by cases hr) (fun _ _ => trivial)
  have key : ∀ q oq, (h.set i (some .dead))[q]? = some (some oq) → oq = .dead ∨ (q ≠ i ∧ h[q]? = some (some oq)) := fun q oq hq => by
    rcases get_set hq with ⟨_, h2, _⟩ | ⟨h1, h2⟩
    · cases h2; exact .inl rfl
    · exact .inr ⟨h1, h2⟩
  have hnone : η h.length = none := s.free fun o => by rw [List.getElem?_eq_none (Nat.le_refl _)]; simp
  have hle := Nam.le_put (a := ai) hnone
  have := s1.plus (o' := o) (a' := ai) (φ i)
    (by rw [List.length_set]; exact SObj.holds_mono hle (s.holds i o ai hi hai))
    (fun b hb => s.bnd i o ai b hi hai hb)
    (fun hr b hb => s.own i o ai b hi hai hr hb)
    (fun hr q oq aq b hq haq hb hqb => by
      rcases key q oq hq with rfl | ⟨q1, q2⟩
      · exact hqb
      · exact s.sep i q o oq ai aq b (Ne.symm q1) hi q2 hai haq hr hb hqb)
    (fun q oq aq b hq haq hr hqb hb => by
      rcases key q oq hq with rfl | ⟨q1, q2⟩
      · exact hqb
      · exact s.sep q i oq o aq ai b q1 q2 hi haq hai hr hqb hb)
  simp only [List.length_set] at this
  exact this
/-- A block goes by a new name. -/
theorem entMove {n : Nat} {T T' : Tm} {H : SHeap} {D : List SV} {i : Nat} {o : SObj} (hi : H[i]? = some (some o)) (hrw : o.rw = true) (hT' : ∀ η : Nam, η H.length = η i → TmEqN η T T') :
    Ent n ⟨T, H, D⟩ ⟨T', (H.set i (some .dead)) ++ [some o], D⟩ := by
  intro η φ w0 Ef w a hn hs hT hD
  obtain ⟨ai, hai⟩ := hs.named i _ hi
  obtain ⟨hle, s1⟩ := hs.rename hi hai hrw
  refine ⟨_, _, pin_put hn _, ?_, s1, (hT' _ ?_).rel (hT.mono hle), hD.mono hle⟩
  · simp only [List.length_append, List.length_singleton, List.length_set]
    exact Nat.le_trans hn (Nat.le_succ _)
  · rw [Nam.put_same, hle i ai hai]
/-- A block goes by a new name, and an array that tells of it says so. -/
theorem entMoveG {n : Nat} {T : Tm} {H : SHeap} {D : List SV} {j o sz M cap : Nat} {ob : SObj} {go go' : Nat → List SV} (hj : H[j]? = some (some ob)) (hrw : ob.rw = true) (hO : H[o]? = some (some (.arr sz M cap go))) (hne : o ≠ j)
    (hgo : ∀ η : Nam, η H.length = η j → ∀ k, k < M → denL η (go k) = denL η (go' k)) :
    Ent n ⟨T, H, D⟩ ⟨T, (((H.set j (some .dead)).set o (some (.arr sz M cap go'))) ++ [some ob]), D⟩ := by
  intro η φ w0 Ef w a hn hs hT hD
  obtain ⟨aj, haj⟩ := hs.named j _ hj
  obtain ⟨hle, s1⟩ := hs.rename hj haj hrw
  have lo : o < H.length := lt_of_get hO
  have hO3 : ((H.set j (some .dead)) ++ [some ob])[o]? = some (some (.arr sz M cap go)) := by
    rw [List.getElem?_append_left (by simpa using lo), List.getElem?_set_ne (Ne.symm hne)]
    exact hO
  have s4 := s1.less (o' := .arr sz M cap go') hO3 (fun _ _ hb => hb) (fun _ => rfl) (fun ad hh => by
    obtain ⟨h0, Ta, ca, h1, h2, h3, h4⟩ := hh
    refine ⟨h0, Ta, ca, h1, h2, h3, fun k hk => ?_⟩
    rw [← hgo _ (by rw [Nam.put_same, hle j aj haj]) k (by omega)]
    exact h4 k hk)
  rw [List.set_append_left _ _ (by simpa using lo)] at s4
  refine ⟨_, _, pin_put hn _, ?_, s4, hT.mono hle, hD.mono hle⟩
  simp only [List.length_append, List.length_singleton, List.length_set]
  exact Nat.le_trans hn (Nat.le_succ _)
end Go.Sy
/-
  Contracts of the document's answer: power, Has, every.
-/
namespace Go.Proofs.Ytgofhjihkinknaa
open Go Go.Sy Kuhn
set_option linter.unusedSimpArgs false
set_option maxRecDepth 100000
set_option maxHeartbeats 4000000
attribute [local irreducible] CallP CodeP Ent YieldP

def pw (n : Nat) : Nat := 2 ^ n
theorem pw_step (n : Nat) : 2 * ((pw n : Nat) : Int) = ((pw (n + 1) : Nat) : Int) := by
  unfold pw
  rw [Nat.pow_succ]
  omega
theorem pw_pos (n : Nat) : 0 < pw n := Nat.pow_pos (by decide)
theorem pw_le {n m : Nat} (h : n ≤ m) : pw n ≤ pw m := Nat.pow_le_pow_right (by decide) h
theorem pw_bit (S n : Nat) : decide (S / pw n % 2 = 1) = S.testBit n := by
  unfold pw
  rw [Nat.testBit_eq_decide_div_mod_eq]
theorem pw_every (h : HD) : ((pw h.n : Nat) : Int) - 1 = ((h.every : Nat) : Int) := by
  have := pw_pos h.n
  unfold HD.every
  unfold pw at this ⊢
  omega
attribute [local irreducible] pw
theorem t93 (n : Nat) (hn : n ≤ 60) : CallP Try.prog 93 [.int .i64 n] [] (Ret (.int .i64 (pw n : Nat)) []) := by
  have h60 : pw 60 = 1152921504606846976 := by unfold pw; decide
  refine callR (E := E) E_ok Try.func93 rfl ?_
  (repeat' (first | exact trivial | exact fun _ => rfl | exact rfl | refine And.intro ?_ ?_))
  refine loopP E_ok [0] (fun i : Nat => [(3, .int .i64 (pw i : Nat)), (4, .int .i64 i)]) (fun _ H => H) (fun i => i ≤ n) (fun i => n - i) 0 (Nat.zero_le _) ?_ ?_
  · refine ent_tau [] ⟨by (repeat' (first | exact trivial | exact rfl | exact fun _ _ => rfl | exact fun _ _ _ _ => rfl | exact Or.inl rfl | exact Or.inr rfl | refine And.intro ?_ ?_)), ?_, rfl⟩
    (repeat' (first | exact trivial | exact rfl | exact congrArg (SV.int .i64) (by unfold pw; rfl) | refine And.intro ?_ ?_))
  rintro i hi
  have hp := pw_le (show i ≤ 60 by omega)
  refine And.intro ?_ (And.intro (fun hlt => ?_) (fun hlt => ?_))
  · (repeat' (first | exact trivial | exact fun _ => rfl | exact rfl | refine And.intro ?_ ?_))
  · have hlt' : i < n := by
      have := of_decide_eq_true hlt
      omega
    have hp2 := pw_le (show i + 1 ≤ 60 by omega)
    have hs := pw_step i
    (repeat' (first | exact trivial | exact fun _ => rfl | exact rfl | refine And.intro ?_ ?_))
    all_goals first | (first | omega | exact u0 (by omega) | exact u1 (by omega) | exact u1 ⟨by omega, by omega⟩ | exact un (by omega) | exact fun hh => hh | exact fun hh => absurd hh (by decide) | exact fun hh => congrArg not hh | exact fun hh => Bool.noConfusion (show true = false from hh) | exact fun hh => Bool.noConfusion (show false = true from hh)) | skip
    refine ⟨i + 1, hlt', by omega, ?_⟩
    refine ent_tau [] ⟨by (repeat' (first | exact trivial | exact rfl | exact fun _ _ => rfl | exact fun _ _ _ _ => rfl | exact Or.inl rfl | exact Or.inr rfl | refine And.intro ?_ ?_)), ?_, rfl⟩
    (repeat' (first | exact trivial | exact rfl | exact congrArg (SV.int .i64) (Int.natCast_succ _).symm | exact congrArg (SV.int .i64) hs | refine And.intro ?_ ?_))
  · have e : i = n := by
      have := of_decide_eq_false hlt
      omega
    subst e
    (repeat' (first | exact trivial | exact fun _ => rfl | exact rfl | refine And.intro ?_ ?_))
    exact ent_tau [] ⟨by (repeat' (first | exact trivial | exact rfl | exact fun _ _ => rfl | exact fun _ _ _ _ => rfl | exact Or.inl rfl | exact Or.inr rfl | refine And.intro ?_ ?_)), by (repeat' (first | exact trivial | exact rfl | exact congrArg (SV.int .i64) (Int.natCast_succ _).symm | exact congrArg (SV.int .u64) (Int.natCast_succ _).symm | refine And.intro ?_ ?_)), rfl⟩
theorem t76 (S n : Nat) (hS : S < 128) (hn : n ≤ 60) : CallP Try.prog 76 [.int .i64 S, .int .i64 n] [] (Ret (.bool (S.testBit n)) []) := by
  have hp := pw_pos n
  have hb := pw_bit S n
  have h1 : S / pw n ≤ S := Nat.div_le_self _ _
  have e1 : ((S : Nat) : Int).tdiv ((pw n : Nat) : Int) = ((S / pw n : Nat) : Int) := by
    rw [Int.tdiv_eq_ediv_of_nonneg (by omega)]
    rfl
  obtain ⟨q, hq⟩ : ∃ q, S / pw n = q := ⟨_, rfl⟩
  rw [hq] at h1 e1 hb
  have e2 : ((q : Nat) : Int).tmod 2 = ((q % 2 : Nat) : Int) := by
    rw [Int.tmod_eq_emod_of_nonneg (by omega)]
    rfl
  refine callR (E := E) E_ok Try.func76 rfl ?_
  (repeat' (first | exact trivial | exact fun _ => rfl | exact rfl | refine And.intro ?_ ?_))
  refine (t93 n hn).use [] ?_ trivial rfl
  (repeat' (first | exact trivial | exact fun _ => rfl | exact rfl | refine And.intro ?_ ?_))
  all_goals first | (first | omega | exact u0 (by omega) | exact u1 (by omega) | exact u1 ⟨by omega, by omega⟩ | exact un (by omega) | exact fun hh => hh | exact fun hh => absurd hh (by decide) | exact fun hh => congrArg not hh | exact fun hh => Bool.noConfusion (show true = false from hh) | exact fun hh => Bool.noConfusion (show false = true from hh)) | (rw [e1]; omega) | (rw [e1, e2]; omega) | skip
  refine ent_tau [] ⟨by (repeat' (first | exact trivial | exact rfl | exact fun _ _ => rfl | exact Or.inl rfl | refine And.intro ?_ ?_)), ⟨rfl, ?_, trivial⟩, rfl⟩
  refine congrArg SV.bool ?_
  rw [← hb, e1, e2]
  exact decide_eq_decide.2 ⟨fun h => by omega, fun h => by omega⟩
theorem t70 (h : HD) (hn : h.n ≤ 60) : CallP Try.prog 70 [HD.A h] (HD.H h) (Ret (.int .i64 (h.every : Nat)) (HD.H h)) := by
  have h60 : pw 60 = 1152921504606846976 := by unfold pw; decide
  have hp := pw_le hn
  have he := pw_every h
  refine callR (E := E) E_ok Try.func70 rfl ?_
  (repeat' (first | exact trivial | exact fun _ => rfl | exact rfl | refine And.intro ?_ ?_))
  refine (t93 h.n hn).use [] ?_ trivial rfl
  (repeat' (first | exact trivial | exact fun _ => rfl | exact rfl | refine And.intro ?_ ?_))
  all_goals first | (first | omega | exact u0 (by omega) | exact u1 (by omega) | exact u1 ⟨by omega, by omega⟩ | exact un (by omega) | exact fun hh => hh | exact fun hh => absurd hh (by decide) | exact fun hh => congrArg not hh | exact fun hh => Bool.noConfusion (show true = false from hh) | exact fun hh => Bool.noConfusion (show false = true from hh)) | skip
  refine ent_tau [0] ⟨by (repeat' (first | exact trivial | exact rfl | exact fun _ _ => rfl | exact fun _ _ _ _ => rfl | exact Or.inl rfl | exact Or.inr rfl | refine And.intro ?_ ?_)), ⟨rfl, ?_, trivial⟩, rfl⟩
  exact congrArg (SV.int .i64) he
end Go.Proofs.Ytgofhjihkinknaa
/-
  Plain law: all plans, in parts; blocks of plans.
-/
namespace Go.Proofs.Ytgofhjihkinknaa
open Go Go.Sy Kuhn
set_option linter.unusedSimpArgs false
set_option maxRecDepth 100000
set_option maxHeartbeats 4000000
attribute [local irreducible] CallP CodeP Ent YieldP

namespace PW
theorem ways_len (h : HD) (s : Bool) (ok : Nat → Bool) {N : Nat} (hN : N ≤ 7) : ∀ (r : Nat) (L : List Int), (h.ways s ok N r L).length ≤ 7 ^ r
  | 0, L => by simp [HD.ways]
  | r + 1, L => by
    rw [HD.ways]
    have hp : 0 < 7 ^ r := Nat.pow_pos (by decide)
    have hs : 7 ^ (r + 1) = 7 ^ r * 7 := Nat.pow_succ _ _
    cases ok L.length with
    | false => exact Nat.le_trans (ways_len h s ok hN r _) (by omega)
    | true =>
      have key : ∀ c : Nat, ((List.range c).flatMap fun x : Nat => match h.fits s L (x : Int) with
          | true => h.ways s ok N r (L ++ [(x : Int)])
          | false => []).length ≤ 7 ^ r * c := fun c => by
        induction c with
        | zero => simp
        | succ c ih =>
          rw [List.range_succ, List.flatMap_append, List.length_append, Nat.mul_succ]
          refine Nat.add_le_add ih ?_
          simp only [List.flatMap_cons, List.flatMap_nil, List.append_nil]
          cases h.fits s L (c : Int) with
          | false => exact Nat.zero_le _
          | true => exact ways_len h s ok hN r _
      refine Nat.le_trans (key N) ?_
      rw [hs]
      exact Nat.mul_le_mul_left _ hN
theorem ways_congr (h : HD) (s : Bool) {ok ok' : Nat → Bool} (N : Nat) : ∀ (r : Nat) (L : List Int), (∀ k, L.length ≤ k → k < L.length + r → ok k = ok' k) → h.ways s ok N r L = h.ways s ok' N r L
  | 0, L, _ => rfl
  | r + 1, L, H => by
    have h1 : ∀ y, h.ways s ok N r (L ++ [y]) = h.ways s ok' N r (L ++ [y]) := fun y => ways_congr h s N r _ fun k a b => H k (by simp at a; omega) (by simp at b; omega)
    rw [HD.ways, HD.ways, H L.length (Nat.le_refl _) (by omega), h1]
    simp only [h1]
/-- The plans with one of the first c horses for the next move. -/
def part (h : HD) (s : Bool) (ok : Nat → Bool) (N r : Nat) (L : List Int) (c : Nat) : List (List Int) := (List.range c).flatMap fun x : Nat => match h.fits s L (x : Int) with
  | true => h.ways s ok N r (L ++ [(x : Int)])
  | false => []
theorem part_zero {h : HD} {s : Bool} {ok : Nat → Bool} {N r : Nat} {L : List Int} : part h s ok N r L 0 = [] := rfl
theorem part_yes {h : HD} {s : Bool} {ok : Nat → Bool} {N r : Nat} {L : List Int} {c : Nat} (hf : h.fits s L (c : Int) = true) : part h s ok N r L (c + 1) = part h s ok N r L c ++ h.ways s ok N r (L ++ [(c : Int)]) := by
  unfold part
  rw [List.range_succ, List.flatMap_append, List.flatMap_cons, List.flatMap_nil, List.append_nil, hf]
theorem part_no {h : HD} {s : Bool} {ok : Nat → Bool} {N r : Nat} {L : List Int} {c : Nat} (hf : h.fits s L (c : Int) = false) : part h s ok N r L (c + 1) = part h s ok N r L c := by
  unfold part
  rw [List.range_succ, List.flatMap_append, List.flatMap_cons, List.flatMap_nil, List.append_nil, hf, List.append_nil]
theorem part_le {h : HD} {s : Bool} {ok : Nat → Bool} {N r : Nat} {L : List Int} {a : Nat} : ∀ {b : Nat}, a ≤ b → (part h s ok N r L a).length ≤ (part h s ok N r L b).length
  | 0, hb => by rw [Nat.le_zero.1 hb]; exact Nat.le_refl _
  | b + 1, hb => by
    rcases Nat.eq_or_lt_of_le hb with rfl | hb
    · exact Nat.le_refl _
    · refine Nat.le_trans (part_le (b := b) (by omega)) ?_
      cases hf : h.fits s L (b : Int) with
      | false => rw [part_no hf]; exact Nat.le_refl _
      | true => rw [part_yes hf, List.length_append]; exact Nat.le_add_right _ _
theorem ways_yes {h : HD} {s : Bool} {ok : Nat → Bool} {N r : Nat} {L : List Int} (ho : ok L.length = true) : h.ways s ok N (r + 1) L = part h s ok N r L N := by
  rw [HD.ways, ho]
  rfl
theorem ways_no {h : HD} {s : Bool} {ok : Nat → Bool} {N r : Nat} {L : List Int} (ho : ok L.length = false) : h.ways s ok N (r + 1) L = h.ways s ok N r (L ++ [-1]) := by
  rw [HD.ways, ho]
end PW

def rowG (L : List Int) (k : Nat) : List SV := [.int .i64 (L.getD k 0)]
def rowsC (j N : Nat) (cp : Nat → Nat) (k : Nat) : List SV := [.row j k N (cp k)]
def poolW (N : Nat) (W : List (List Int)) : SObj := .pool true W.length (fun _ => N) fun k m => (W.getD k []).getD m 0
def K69 (h : HD) (W : List (List Int)) : CE → SHeap → Prop := fun ce h' =>
  ∃ (cO : Nat) (cp : Nat → Nat), (W.length ≤ cO ∧ cO ≤ 9223372036854775807) ∧ ce = .ret (.slice 4 1 0 W.length cO) ∧ h' = [some (.roa 4 h.n (HD.F h)), some .dead, some .dead, some .dead, some (.arr 1 W.length cO (rowsC 5 h.n cp)), some (poolW h.n W)]
theorem one1P {get : Nat → List SV} (h : allOne (get 0) = true) : allOneN get 0 1 := fun k hk => by
  have h0 : k = 0 := Nat.lt_one_iff.1 hk
  subst h0
  exact h
theorem sel_app {σ : Nat → Nat} {L : List Int} {d k : Nat} {n : Int} (hd : L.length = d) (hk : k < 0 + d + 1) {a b : Nat → List SV} (hb : b 0 = [.int .i64 n]) :
    selL (decide (k < 0 + d)) (selL (decide (k < 0)) (a k) (rowG L (0 + (k - 0)))) (b (0 + (k - (0 + d)))) = renL σ (rowG (L ++ [n]) k) := by
  subst hd
  rw [decide_eq_false (Nat.not_lt_zero k), selL_false]
  rcases Nat.lt_or_ge k L.length with h | h
  · rw [decide_eq_true (show k < 0 + L.length by omega), selL_true]
    simp only [rowG, HD.getD_app, if_pos h, Nat.zero_add, Nat.sub_zero]
    rfl
  · obtain rfl : k = L.length := by omega
    rw [decide_eq_false (show ¬ L.length < 0 + L.length by omega), selL_false, show 0 + (L.length - (0 + L.length)) = 0 by omega, hb]
    simp only [rowG, HD.getD_app, if_neg (Nat.lt_irrefl _), if_pos]
    rfl
theorem sel_push {σ : Nat → Nat} {n k : Nat} (hk : k < n + 1) {a a' b : Nat → List SV} {c : List SV} (h1 : ∀ k, k < n → a k = renL σ (a' k)) (h2 : b 0 = renL σ c) : selL (decide (k < n)) (a k) (b (0 + (k - n))) = renL σ (if k < n then a' k else c) := by
  rcases Nat.lt_succ_iff_lt_or_eq.1 hk with h | rfl
  · rw [decide_eq_true h, selL_true, if_pos h, h1 k h]
  · rw [decide_eq_false (Nat.lt_irrefl _), selL_false, if_neg (Nat.lt_irrefl _), Nat.sub_self, h2]
theorem getD_old {α : Type} {W : List α} {g z : α} {k : Nat} (hk : k < W.length) : (W ++ [g]).getD k z = W.getD k z := by
  rw [List.getD_eq_getElem?_getD, List.getElem?_append_left hk, List.getD_eq_getElem?_getD]
theorem getD_new {α : Type} {W : List α} {g z : α} : (W ++ [g]).getD W.length z = g := by
  rw [List.getD_eq_getElem?_getD, List.getElem?_append_right (Nat.le_refl _)]
  simp
theorem push69 {h : HD} {cb : Nat} {L : List Int} {M cO c : Nat} {cp : Nat → Nat} {W : List (List Int)} (hL : L.length = h.n) (hM : M = W.length) {go : Nat → List SV} (h1 : ∀ k, k < M → go k = rowsC 3 h.n cp k) (h2 : go M = [.slice 1 1 0 h.n cb]) {n : Nat} {T : Tm} {D : List SV} :
    Ent n ⟨T, [some (.roa 4 h.n (HD.F h)), some (.arr 1 h.n cb (rowG L)), some .dead, some (poolW h.n W), some (.arr 1 (M + 1) c go)], D⟩
      ⟨T, [some (.roa 4 h.n (HD.F h)), some .dead, some .dead, some .dead, some (.arr 1 (M + 1) c (rowsC 5 h.n fun k => if k < M then cp k else cb)), some (poolW h.n (W ++ [L]))], D⟩ := by
  subst hM
  have e : (W ++ [L]).length = W.length + 1 := by simp
  have := entPush (n := n) (T := T) (D := D) (H := [some (.roa 4 h.n (HD.F h)), some (.arr 1 h.n cb (rowG L)), some .dead, some (poolW h.n W), some (.arr 1 (W.length + 1) c go)]) (i := 1) (j := 3) (o := 4) (np := W.length) (m := h.n) (cap := cb)
    (go' := rowsC 5 h.n fun k => if k < W.length then cp k else cb) (len' := fun _ => h.n) (get' := fun k m => ((W ++ [L]).getD k []).getD m 0) rfl rfl rfl (by decide)
    (fun q _ => by rw [getD_new]; rfl) (fun k _ => rfl) (Nat.le_refl _) (fun k hk q _ => by rw [getD_old hk])
    (fun η hp k hk => by
      rcases Nat.lt_succ_iff_lt_or_eq.1 hk with h | rfl
      · rw [h1 k h]
        simp only [rowsC, if_pos h, denL]
        rw [hp.old h]
        rfl
      · rw [h2]
        simp only [rowsC, if_neg (Nat.lt_irrefl _), denL]
        rw [hp.new]
        rfl)
  have e2 : poolW h.n (W ++ [L]) = .pool true (W.length + 1) (fun _ => h.n) fun k m => ((W ++ [L]).getD k []).getD m 0 := by rw [poolW, e]
  rw [e2]
  exact this
end Go.Proofs.Ytgofhjihkinknaa
