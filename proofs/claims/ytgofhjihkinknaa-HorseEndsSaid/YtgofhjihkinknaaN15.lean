/-
  Parts: P2, P3, P4.
-/
import Derived.Test.YtgofhjihkinknaaN14
set_option linter.unusedVariables false
/-
  Contracts: where a horse can be, which moves can follow which ones.
-/
namespace Go.Proofs.Ytgofhjihkinknaa
open Go Go.Sy Kuhn
set_option linter.unusedSimpArgs false
set_option maxRecDepth 100000
set_option maxHeartbeats 4000000
attribute [local irreducible] CallP CodeP Ent YieldP
attribute [local irreducible] HD.ch

theorem u0 {P : Prop} (h : P) : under none P := h
theorem u1 {P : Prop} {c : Bool} (h : P) : under (some c) P := fun _ => h
theorem z1 (i : Nat) : 0 + ((i : Nat) : Int).toNat = i := by omega
theorem t81 (h : HD) (hv : h.Valid) (s : Bool) (b : Int) (hb : 0 ≤ b ∧ b ≤ 1000000) (i k : Nat) (hi : i < h.n) (hk : k < h.n) :
    CallP Try.prog 81 [HD.A h, .int .i64 b, .int .i64 i, .int .i64 k, tr s] (HD.H h) (Ret (.int .i64 (h.there s b i k)) (HD.H h)) := by
  have ei := z1 i
  have ek := z1 k
  have mi := hv.2.2 i hi
  have mk := hv.2.2 k hk
  unfold HD.okMv at mi mk
  have w0 := HD.walk_nonneg hv i k
  have w1 := HD.walk_le hv hi hk
  have w2 : h.pace * max (h.pl i - h.pl k) (h.pl k - h.pl i) = h.pace * h.dist i k := rfl
  have tt := HD.takes_pos hv s hi
  have tl := HD.takes_le hv s hi
  have key : ∀ a b : Int, (if b > a then b else a) = max a b := fun a b => by split <;> omega
  have kD : max (h.pl i - h.pl k) (h.pl k - h.pl i) = h.dist i k := rfl
  cases s with
  | true =>
    refine callR (E := E) E_ok Try.func81 rfl ?_
    refine And.intro ?_ ?_
    · simp [AllP, under, gB, wB, inR_iff, IntKind.bits]
    refine drawP E_ok [1] pl81_1 (by kernel_rfl) ?_
    (repeat' (first | exact trivial | exact fun _ => rfl | exact rfl | refine And.intro ?_ ?_))
    all_goals first | (first | omega | exact u0 (by omega) | exact u1 (by omega) | exact u1 ⟨by omega, by omega⟩ | exact un (by omega) | exact fun hh => hh | exact fun hh => absurd hh (by decide) | exact fun hh => congrArg not hh | exact fun hh => Bool.noConfusion (show true = false from hh) | exact fun hh => Bool.noConfusion (show false = true from hh)) | skip
    all_goals refine drawP E_ok [1, 2, 3] pl81_2 (by kernel_rfl) ?_
    all_goals (repeat' (first | exact trivial | exact fun _ => rfl | exact rfl | refine And.intro ?_ ?_))
    all_goals first | (first | omega | exact u0 (by omega) | exact u1 (by omega) | exact u1 ⟨by omega, by omega⟩ | exact un (by omega) | exact fun hh => hh | exact fun hh => absurd hh (by decide) | exact fun hh => congrArg not hh | exact fun hh => Bool.noConfusion (show true = false from hh) | exact fun hh => Bool.noConfusion (show false = true from hh)) | (simp only [ei, ek, key, kD]; (first | omega | exact u0 (by omega) | exact u1 (by omega) | exact u1 ⟨by omega, by omega⟩ | exact un (by omega) | exact fun hh => hh | exact fun hh => absurd hh (by decide) | exact fun hh => congrArg not hh | exact fun hh => Bool.noConfusion (show true = false from hh) | exact fun hh => Bool.noConfusion (show false = true from hh))) | skip
    all_goals refine (t120 _ _ _ _).use [] ?_ trivial rfl
    all_goals (repeat' (first | exact trivial | exact fun _ => rfl | exact rfl | refine And.intro ?_ ?_))
    all_goals first | (first | omega | exact u0 (by omega) | exact u1 (by omega) | exact u1 ⟨by omega, by omega⟩ | exact un (by omega) | exact fun hh => hh | exact fun hh => absurd hh (by decide) | exact fun hh => congrArg not hh | exact fun hh => Bool.noConfusion (show true = false from hh) | exact fun hh => Bool.noConfusion (show false = true from hh)) | (simp only [ei, ek, key, kD]; (first | omega | exact u0 (by omega) | exact u1 (by omega) | exact u1 ⟨by omega, by omega⟩ | exact un (by omega) | exact fun hh => hh | exact fun hh => absurd hh (by decide) | exact fun hh => congrArg not hh | exact fun hh => Bool.noConfusion (show true = false from hh) | exact fun hh => Bool.noConfusion (show false = true from hh))) | skip
    all_goals refine ent_tau [0] ⟨by (repeat' (first | exact trivial | exact rfl | exact fun _ _ => rfl | exact Or.inl rfl | refine And.intro ?_ ?_)), ⟨rfl, ?_, trivial⟩, rfl⟩
    all_goals refine congrArg (SV.int .i64) ?_
    all_goals simp only [ei, ek, key, kD]
    all_goals rfl
  | false =>
    refine callR (E := E) E_ok Try.func81 rfl ?_
    refine And.intro ?_ ?_
    · simp [AllP, under, gB, wB, inR_iff, IntKind.bits]
    refine drawP E_ok [1] pl81_1 (by kernel_rfl) ?_
    (repeat' (first | exact trivial | exact fun _ => rfl | exact rfl | refine And.intro ?_ ?_))
    all_goals first | (first | omega | exact u0 (by omega) | exact u1 (by omega) | exact u1 ⟨by omega, by omega⟩ | exact un (by omega) | exact fun hh => hh | exact fun hh => absurd hh (by decide) | exact fun hh => congrArg not hh | exact fun hh => Bool.noConfusion (show true = false from hh) | exact fun hh => Bool.noConfusion (show false = true from hh)) | skip
    all_goals refine drawP E_ok [1, 2, 3] pl81_2 (by kernel_rfl) ?_
    all_goals (repeat' (first | exact trivial | exact fun _ => rfl | exact rfl | refine And.intro ?_ ?_))
    all_goals first | (first | omega | exact u0 (by omega) | exact u1 (by omega) | exact u1 ⟨by omega, by omega⟩ | exact un (by omega) | exact fun hh => hh | exact fun hh => absurd hh (by decide) | exact fun hh => congrArg not hh | exact fun hh => Bool.noConfusion (show true = false from hh) | exact fun hh => Bool.noConfusion (show false = true from hh)) | (simp only [ei, ek, key, kD]; (first | omega | exact u0 (by omega) | exact u1 (by omega) | exact u1 ⟨by omega, by omega⟩ | exact un (by omega) | exact fun hh => hh | exact fun hh => absurd hh (by decide) | exact fun hh => congrArg not hh | exact fun hh => Bool.noConfusion (show true = false from hh) | exact fun hh => Bool.noConfusion (show false = true from hh))) | skip
    all_goals refine (t121 _ _ _ _).use [] ?_ trivial rfl
    all_goals (repeat' (first | exact trivial | exact fun _ => rfl | exact rfl | refine And.intro ?_ ?_))
    all_goals first | (first | omega | exact u0 (by omega) | exact u1 (by omega) | exact u1 ⟨by omega, by omega⟩ | exact un (by omega) | exact fun hh => hh | exact fun hh => absurd hh (by decide) | exact fun hh => congrArg not hh | exact fun hh => Bool.noConfusion (show true = false from hh) | exact fun hh => Bool.noConfusion (show false = true from hh)) | (simp only [ei, ek, key, kD]; (first | omega | exact u0 (by omega) | exact u1 (by omega) | exact u1 ⟨by omega, by omega⟩ | exact un (by omega) | exact fun hh => hh | exact fun hh => absurd hh (by decide) | exact fun hh => congrArg not hh | exact fun hh => Bool.noConfusion (show true = false from hh) | exact fun hh => Bool.noConfusion (show false = true from hh))) | skip
    all_goals refine ent_tau [0] ⟨by (repeat' (first | exact trivial | exact rfl | exact fun _ _ => rfl | exact Or.inl rfl | refine And.intro ?_ ?_)), ⟨rfl, ?_, trivial⟩, rfl⟩
    all_goals refine congrArg (SV.int .i64) ?_
    all_goals simp only [ei, ek, key, kD]
    all_goals rfl
end Go.Proofs.Ytgofhjihkinknaa
/-
  Contracts: which moves can follow which ones.
-/
namespace Go.Proofs.Ytgofhjihkinknaa
open Go Go.Sy Kuhn
set_option linter.unusedSimpArgs false
set_option maxRecDepth 100000
set_option maxHeartbeats 4000000
attribute [local irreducible] CallP CodeP Ent YieldP
attribute [local irreducible] HD.ch maskO

/-- Seven numbers. -/
def chI (f : Nat → Int) : List SV := [.int .u64 (f 0), .int .u64 (f 1), .int .u64 (f 2), .int .u64 (f 3), .int .u64 (f 4), .int .u64 (f 5), .int .u64 (f 6)]
theorem chI_eq {f g : Nat → Int} (h : ∀ m, m < 7 → f m = g m) : chI f = chI g := by
  simp only [chI, h 0 (by decide), h 1 (by decide), h 2 (by decide), h 3 (by decide), h 4 (by decide), h 5 (by decide), h 6 (by decide)]
theorem get7 (f : Nat → Int) : ∀ m, m < 7 → [f 0, f 1, f 2, f 3, f 4, f 5, f 6].getD m 0 = f m
  | 0, _ => rfl
  | 1, _ => rfl
  | 2, _ => rfl
  | 3, _ => rfl
  | 4, _ => rfl
  | 5, _ => rfl
  | 6, _ => rfl
  | m + 7, h => by omega
theorem unF {A B : Int} {S T : Nat} (hA : A = S) (hB : B = T) : ∀ k, k < 2 → getOf 1 [.int .u64 A, .int .u64 B] k = un2 S T k
  | 0, _ => by rw [hA, hB]; rfl
  | 1, _ => by rw [hA, hB]; rfl
  | k + 2, h => by omega
theorem pow_int (k : Nat) : (1 : Int) * 2 ^ ((k : Nat) : Int).toNat = ((2 ^ k : Nat) : Int) := by
  rw [Int.one_mul, Int.toNat_natCast]
  push_cast
  rfl
theorem mask_lt7 (f : Nat → Bool) {k : Nat} (hk : k ≤ 7) : maskO f k < 128 := Nat.lt_of_lt_of_le (maskO_lt f k) (Nat.pow_le_pow_right (n := 2) (by omega) hk)
theorem maskO_zero (f : Nat → Bool) : maskO f 0 = 0 := by simp [maskO]
theorem maskO_yes {f : Nat → Bool} {k : Nat} (h : f k = true) : maskO f (k + 1) = maskO f k ||| 2 ^ k := by simp [maskO, h]
theorem maskO_no {f : Nat → Bool} {k : Nat} (h : f k = false) : maskO f (k + 1) = maskO f k := by simp [maskO, h]
/-- How far the chart is. -/
def cf (h : HD) (s : Bool) (i k j : Nat) : Int := if j < i then (h.ch s j : Nat) else if j = i then (maskO (fun k => h.can s i k) k : Nat) else 0
theorem cf_done {h : HD} {s : Bool} {i : Nat} (hi : i < h.n) (j : Nat) : cf h s i h.n j = cf h s (i + 1) 0 j := by
  unfold cf
  rcases Nat.lt_trichotomy j i with c | c | c
  · rw [if_pos c, if_pos (by omega)]
  · subst c
    rw [if_neg (by omega), if_pos rfl, if_pos (by omega)]
    unfold HD.ch
    rw [decide_eq_true hi]
  · rw [if_neg (by omega), if_neg (by omega), if_neg (by omega), maskO_zero]
    split <;> rfl
theorem cf_at {h : HD} {s : Bool} {i k : Nat} : cf h s i k i = (maskO (fun k => h.can s i k) k : Nat) := by
  unfold cf
  rw [if_neg (by omega), if_pos rfl]
theorem cf_yes {h : HD} {s : Bool} {i k : Nat} (hc : h.can s i k = true) (m : Nat) : (if m = ((i : Nat) : Int).toNat then ((maskO (fun k => h.can s i k) k ||| 2 ^ k : Nat) : Int) else cf h s i k m) = cf h s i (k + 1) m := by
  rw [Int.toNat_natCast]
  unfold cf
  by_cases c : m = i
  · subst c
    rw [if_pos rfl, if_neg (by omega), if_pos rfl, maskO_yes hc]
  · rw [if_neg c]
    by_cases c2 : m < i
    · rw [if_pos c2, if_pos c2]
    · rw [if_neg c2, if_neg c2, if_neg c, if_neg c]
theorem cf_no {h : HD} {s : Bool} {i k : Nat} (hc : h.can s i k = false) (m : Nat) : cf h s i k m = cf h s i (k + 1) m := by
  unfold cf
  by_cases c2 : m < i
  · rw [if_pos c2, if_pos c2]
  · rw [if_neg c2, if_neg c2]
    by_cases c : m = i
    · rw [if_pos c, if_pos c, maskO_no hc]
    · rw [if_neg c, if_neg c]
theorem cf_zero {h : HD} {s : Bool} (m : Nat) : 0 = cf h s 0 0 m := by
  unfold cf
  rw [if_neg (by omega), maskO_zero]
  split <;> rfl
theorem cf_all {h : HD} {s : Bool} (m : Nat) : cf h s h.n 0 m = (h.ch s m : Nat) := by
  unfold cf
  by_cases c : m < h.n
  · rw [if_pos c]
  · rw [if_neg c, maskO_zero]
    unfold HD.ch
    rw [decide_eq_false c]
    split <;> rfl
def pl50_8s : Plan := .eager 0 <| .eager 1 <| .eager 2 <| .eager 4 <| .eager 5 <| .alt 3 (.alt 6 (.alt 7 (.eager 8 <| .alt 9 .done .no) .no) .no) .no
def bc (h : HD) : List SV := [.int .i64 h.pace, .osl h.b 0 4 h.n h.cap]
theorem t50 (h : HD) (hv : h.Valid) (s : Bool) : CallP Try.prog 50 [HD.A h, tr s] (HD.H h) (Ret (.agg (chI fun j => (h.ch s j : Nat))) (HD.H h)) := by
  have hn := hv.2.1
  refine callR (E := E) E_ok Try.func50 rfl ?_
  refine And.intro ?_ ?_
  · simp [AllP, under, gB, wB, inR_iff, IntKind.bits]
  refine loopP E_ok [1, 2, 4, 11, 12] (fun i : Nat => [(13, .int .i64 i)]) (fun i _ => HD.H h ++ [some (.cells (bc h)), some (.cells (chI (cf h s i 0)))]) (fun i => i ≤ h.n) (fun i => h.n - i) 0 (Nat.zero_le _) ?_ ?_
  · refine ent_tau [0, 1, 2] ⟨?_, by (repeat' (first | exact trivial | exact rfl | exact congrArg (SV.int .i64) (Int.natCast_succ _).symm | exact congrArg (SV.int .u64) (Int.natCast_succ _).symm | refine And.intro ?_ ?_)), rfl⟩
    (repeat' (first | exact trivial | exact rfl | exact fun _ _ => rfl | exact Or.inl rfl | refine And.intro ?_ ?_))
    exact chI_eq (f := fun _ => 0) fun m _ => cf_zero m
  rintro i hi
  have ei := z1 i
  refine And.intro ?_ (And.intro (fun hc => ?_) (fun hc => ?_))
  · simp [AllP, under, gB, wB, inR_iff, IntKind.bits]
  · have hlt : i < h.n := by
      have := of_decide_eq_true hc
      omega
    have mi := hv.2.2 (0 + ((i : Nat) : Int).toNat) (by omega)
    unfold HD.okMv at mi
    refine And.intro ?_ ?_
    · (repeat' (first | exact trivial | exact fun _ => rfl | exact rfl | refine And.intro ?_ ?_))
      all_goals (first | omega | exact u0 (by omega) | exact u1 (by omega) | exact u1 ⟨by omega, by omega⟩ | exact un (by omega) | exact fun hh => hh | exact fun hh => absurd hh (by decide) | exact fun hh => congrArg not hh | exact fun hh => Bool.noConfusion (show true = false from hh) | exact fun hh => Bool.noConfusion (show false = true from hh))
    refine loopP E_ok [1, 2, 4, 5, 6, 11, 12, 13, 20, 21] (fun k : Nat => [(22, .int .i64 k)]) (fun k _ => HD.H h ++ [some (.cells (bc h)), some (.cells (chI (cf h s i k))), some (.cells (HD.F h (0 + ((i : Nat) : Int).toNat)))]) (fun k => k ≤ h.n) (fun k => h.n - k) 0 (Nat.zero_le _) ?_ ?_
    · exact ent_tau [0, 1, 2, 3] ⟨by (repeat' (first | exact trivial | exact rfl | exact fun _ _ => rfl | exact Or.inl rfl | refine And.intro ?_ ?_)), by (repeat' (first | exact trivial | exact rfl | exact congrArg (SV.int .i64) (Int.natCast_succ _).symm | exact congrArg (SV.int .u64) (Int.natCast_succ _).symm | refine And.intro ?_ ?_)), rfl⟩
    rintro k hk
    have ek := z1 k
    refine And.intro ?_ (And.intro (fun hc2 => ?_) (fun hc2 => ?_))
    · simp [AllP, under, gB, wB, inR_iff, IntKind.bits]
    · have hlk : k < h.n := by
        have := of_decide_eq_true hc2
        omega
      have mk := hv.2.2 (0 + ((k : Nat) : Int).toNat) (by omega)
      unfold HD.okMv at mk
      refine And.intro ?_ ?_
      · (repeat' (first | exact trivial | exact fun _ => rfl | exact rfl | refine And.intro ?_ ?_))
        all_goals (first | omega | exact u0 (by omega) | exact u1 (by omega) | exact u1 ⟨by omega, by omega⟩ | exact un (by omega) | exact fun hh => hh | exact fun hh => absurd hh (by decide) | exact fun hh => congrArg not hh | exact fun hh => Bool.noConfusion (show true = false from hh) | exact fun hh => Bool.noConfusion (show false = true from hh))
      refine drawP E_ok [1, 3, 4] pl50_7 (by kernel_rfl) ?_
      refine And.intro (And.intro ?_ ?_) trivial
      · (repeat' (first | exact trivial | exact fun _ => rfl | exact rfl | refine And.intro ?_ ?_))
      refine (t81 h hv s (h.at' (0 + ((i : Nat) : Int).toNat)) ⟨by omega, by omega⟩ i k hlt hlk).use [0] ?_ (by (repeat' (first | exact trivial | exact rfl | exact fun _ _ => rfl | exact Or.inl rfl | refine And.intro ?_ ?_))) rfl
      have ecan : decide (h.there s (h.at' (0 + ((i : Nat) : Int).toNat)) i k ≤ h.at' (0 + ((k : Nat) : Int).toNat)) = h.can s i k := by
        rw [ei, ek]
        rfl
      refine And.intro ?_ ?_
      · (repeat' (first | exact trivial | exact fun _ => rfl | exact rfl | refine And.intro ?_ ?_))
      refine And.intro rfl ?_
      have ml := mask_lt7 (fun k => h.can s i k) (k := k) (by omega)
      refine And.intro ?_ (And.intro (fun hcan => ?_) (fun hcan => ?_))
      · (repeat' (first | exact trivial | exact fun _ => rfl | exact rfl | refine And.intro ?_ ?_))
      · rw [ecan] at hcan
        refine And.intro trivial ?_
        have pk := pow_int k
        have pk0 : (0 : Int) ≤ 1 * 2 ^ ((k : Nat) : Int).toNat := by rw [pk]; exact Int.natCast_nonneg _
        have p2 : 2 ^ k < 2 ^ 7 := Nat.pow_lt_pow_right (by omega) (by omega)
        have hA : [cf h s i k 0, cf h s i k 1, cf h s i k 2, cf h s i k 3, cf h s i k 4, cf h s i k 5, cf h s i k 6].getD ((i : Nat) : Int).toNat 0 = (maskO (fun k => h.can s i k) k : Nat) := by
          rw [Int.toNat_natCast, get7 (cf h s i k) i (by omega), cf_at]
        have hf := unF hA pk
        refine drawP E_ok [] pl50_8s (by kernel_rfl) ?_
        (repeat' (first | exact trivial | exact fun _ => rfl | exact rfl | refine And.intro ?_ ?_))
        all_goals first | (first | omega | exact u0 (by omega) | exact u1 (by omega) | exact u1 ⟨by omega, by omega⟩ | exact un (by omega) | exact fun hh => hh | exact fun hh => absurd hh (by decide) | exact fun hh => congrArg not hh | exact fun hh => Bool.noConfusion (show true = false from hh) | exact fun hh => Bool.noConfusion (show false = true from hh)) | exact pk0 | (rw [pk]; omega) | exact u0 (show ((k : Nat) : Int) < 64 by omega) | skip
        refine (t82 (maskO (fun k => h.can s i k) k) (2 ^ k) (Nat.lt_trans ml (by decide)) (Nat.lt_trans p2 (by decide))).use [5] ?_ (by (first | exact ⟨⟨rfl, rfl, hf⟩, trivial⟩ | exact ⟨⟨rfl, rfl, fun k hk => hf k hk⟩, trivial⟩)) rfl
        (repeat' (first | exact trivial | exact fun _ => rfl | exact rfl | refine And.intro ?_ ?_))
        all_goals first | (first | omega | exact u0 (by omega) | exact u1 (by omega) | exact u1 ⟨by omega, by omega⟩ | exact un (by omega) | exact fun hh => hh | exact fun hh => absurd hh (by decide) | exact fun hh => congrArg not hh | exact fun hh => Bool.noConfusion (show true = false from hh) | exact fun hh => Bool.noConfusion (show false = true from hh)) | skip
        refine ⟨k + 1, hlk, by omega, ?_⟩
        refine ent_tau [0, 1, 2, 3] ⟨?_, by (repeat' (first | exact trivial | exact rfl | exact congrArg (SV.int .i64) (Int.natCast_succ _).symm | exact congrArg (SV.int .u64) (Int.natCast_succ _).symm | refine And.intro ?_ ?_)), rfl⟩
        (repeat' (first | exact trivial | exact rfl | exact fun _ _ => rfl | exact Or.inl rfl | refine And.intro ?_ ?_))
        exact chI_eq (f := fun m => if m = ((i : Nat) : Int).toNat then ((maskO (fun k => h.can s i k) k ||| 2 ^ k : Nat) : Int) else cf h s i k m) fun m _ => cf_yes hcan m
      · rw [ecan] at hcan
        (repeat' (first | exact trivial | exact fun _ => rfl | exact rfl | refine And.intro ?_ ?_))
        all_goals first | (first | omega | exact u0 (by omega) | exact u1 (by omega) | exact u1 ⟨by omega, by omega⟩ | exact un (by omega) | exact fun hh => hh | exact fun hh => absurd hh (by decide) | exact fun hh => congrArg not hh | exact fun hh => Bool.noConfusion (show true = false from hh) | exact fun hh => Bool.noConfusion (show false = true from hh)) | skip
        refine ⟨k + 1, hlk, by omega, ?_⟩
        refine ent_tau [0, 1, 2, 3] ⟨?_, by (repeat' (first | exact trivial | exact rfl | exact congrArg (SV.int .i64) (Int.natCast_succ _).symm | exact congrArg (SV.int .u64) (Int.natCast_succ _).symm | refine And.intro ?_ ?_)), rfl⟩
        (repeat' (first | exact trivial | exact rfl | exact fun _ _ => rfl | exact Or.inl rfl | refine And.intro ?_ ?_))
        exact chI_eq fun m _ => cf_no hcan m
    · have e : k = h.n := by
        have := of_decide_eq_false hc2
        omega
      subst e
      (repeat' (first | exact trivial | exact fun _ => rfl | exact rfl | refine And.intro ?_ ?_))
      all_goals first | (first | omega | exact u0 (by omega) | exact u1 (by omega) | exact u1 ⟨by omega, by omega⟩ | exact un (by omega) | exact fun hh => hh | exact fun hh => absurd hh (by decide) | exact fun hh => congrArg not hh | exact fun hh => Bool.noConfusion (show true = false from hh) | exact fun hh => Bool.noConfusion (show false = true from hh)) | skip
      refine ⟨i + 1, hlt, by omega, ?_⟩
      refine ent_tau [0, 1, 2] ⟨?_, by (repeat' (first | exact trivial | exact rfl | exact congrArg (SV.int .i64) (Int.natCast_succ _).symm | exact congrArg (SV.int .u64) (Int.natCast_succ _).symm | refine And.intro ?_ ?_)), rfl⟩
      (repeat' (first | exact trivial | exact rfl | exact fun _ _ => rfl | exact Or.inl rfl | refine And.intro ?_ ?_))
      exact chI_eq fun m _ => cf_done hlt m
  · have e : i = h.n := by
      have := of_decide_eq_false hc
      omega
    subst e
    (repeat' (first | exact trivial | exact fun _ => rfl | exact rfl | refine And.intro ?_ ?_))
    refine ent_tau [0] ⟨by (repeat' (first | exact trivial | exact rfl | exact fun _ _ => rfl | exact Or.inl rfl | refine And.intro ?_ ?_)), ⟨rfl, ?_, trivial⟩, rfl⟩
    exact congrArg SV.agg (chI_eq fun m hm => cf_all m)
end Go.Proofs.Ytgofhjihkinknaa
/-
  Contracts: how many moves a set has.
-/
namespace Go.Proofs.Ytgofhjihkinknaa
open Go Go.Sy Kuhn
set_option linter.unusedSimpArgs false
set_option maxRecDepth 100000
set_option maxHeartbeats 4000000
attribute [local irreducible] CallP CodeP Ent YieldP

def oc1 (x : Int) : Int := IntKind.wrap .u64 (bitOp .and .u64 (x.fdiv (2 ^ (1 : Int).toNat)) 6148914691236517205 + bitOp .and .u64 x 6148914691236517205)
def oc2 (x : Int) : Int := IntKind.wrap .u64 (bitOp .and .u64 (x.fdiv (2 ^ (2 : Int).toNat)) 3689348814741910323 + bitOp .and .u64 x 3689348814741910323)
def oc3 (x : Int) : Int := bitOp .and .u64 (IntKind.wrap .u64 (x.fdiv (2 ^ (4 : Int).toNat) + x)) 1085102592571150095
def oc4 (x : Int) : Int := IntKind.wrap .u64 (x + x.fdiv (2 ^ (8 : Int).toNat))
def oc5 (x : Int) : Int := IntKind.wrap .u64 (x + x.fdiv (2 ^ (16 : Int).toNat))
def oc6 (x : Int) : Int := IntKind.wrap .u64 (x + x.fdiv (2 ^ (32 : Int).toNat))
def oc7 (x : Int) : Int := bitOp .and .i64 (IntKind.wrap .i64 x) 127
theorem t102 (x : Int) : CallP Try.prog 102 [.int .u64 x] [] (Ret (.int .i64 (oc7 (oc6 (oc5 (oc4 (oc3 (oc2 (oc1 x)))))))) []) := by
  refine callR (E := Ew) Ew_ok Try.func102 rfl ?_
  (repeat' (first | exact trivial | exact fun _ => rfl | exact rfl | refine And.intro ?_ ?_))
  all_goals first | exact u0 (by decide) | skip
  exact ent_tau [] ⟨by (repeat' (first | exact trivial | exact rfl | exact fun _ _ => rfl | exact Or.inl rfl | refine And.intro ?_ ?_)), by (repeat' (first | exact trivial | exact rfl | exact congrArg (SV.int .i64) (Int.natCast_succ _).symm | exact congrArg (SV.int .u64) (Int.natCast_succ _).symm | refine And.intro ?_ ?_)), rfl⟩
theorem oc_ok : ∀ S : Fin 128, oc7 (oc6 (oc5 (oc4 (oc3 (oc2 (oc1 ((S : Nat) : Int))))))) = ((pop S : Nat) : Int) := by decide +kernel
theorem t102p (S : Nat) (hS : S < 128) : CallP Try.prog 102 [.int .u64 S] [] (Ret (.int .i64 (pop S : Nat)) []) := by
  have := t102 (S : Int)
  rw [oc_ok ⟨S, hS⟩] at this
  exact this
theorem t98 (S : Nat) (hS : S < 128) : CallP Try.prog 98 [.int .u64 S] [] (Ret (.int .i64 (pop S : Nat)) []) := by
  refine callR (E := E) E_ok Try.func98 rfl ?_
  (repeat' (first | exact trivial | exact fun _ => rfl | exact rfl | refine And.intro ?_ ?_))
  · exact fun h => absurd h (by decide)
  intro _
  (repeat' (first | exact trivial | exact fun _ => rfl | exact rfl | refine And.intro ?_ ?_))
  refine (t102p S hS).use [] ?_ (by (repeat' (first | exact trivial | exact rfl | exact fun _ _ => rfl | exact Or.inl rfl | refine And.intro ?_ ?_))) rfl
  (repeat' (first | exact trivial | exact fun _ => rfl | exact rfl | refine And.intro ?_ ?_))
  exact ent_tau [] ⟨by (repeat' (first | exact trivial | exact rfl | exact fun _ _ => rfl | exact Or.inl rfl | refine And.intro ?_ ?_)), by (repeat' (first | exact trivial | exact rfl | exact congrArg (SV.int .i64) (Int.natCast_succ _).symm | exact congrArg (SV.int .u64) (Int.natCast_succ _).symm | refine And.intro ?_ ?_)), rfl⟩
theorem t92 (S : Nat) (hS : S < 128) : CallP Try.prog 92 [.int .u64 S] [] (Ret (.int .i64 (pop S : Nat)) []) := by
  refine callR (E := E) E_ok Try.func92 rfl ?_
  (repeat' (first | exact trivial | exact fun _ => rfl | exact rfl | refine And.intro ?_ ?_))
  refine (t98 S hS).use [] ?_ (by (repeat' (first | exact trivial | exact rfl | exact fun _ _ => rfl | exact Or.inl rfl | refine And.intro ?_ ?_))) rfl
  (repeat' (first | exact trivial | exact fun _ => rfl | exact rfl | refine And.intro ?_ ?_))
  exact ent_tau [] ⟨by (repeat' (first | exact trivial | exact rfl | exact fun _ _ => rfl | exact Or.inl rfl | refine And.intro ?_ ?_)), by (repeat' (first | exact trivial | exact rfl | exact congrArg (SV.int .i64) (Int.natCast_succ _).symm | exact congrArg (SV.int .u64) (Int.natCast_succ _).symm | refine And.intro ?_ ?_)), rfl⟩
theorem pow_lt7 {k : Nat} (hk : k < 7) : 2 ^ k < 128 := Nat.pow_lt_pow_right (n := 7) (by omega) hk
theorem t67 (h : HD) (hn : h.n ≤ 7) : CallP Try.prog 67 [HD.A h] (HD.H h) (Ret (.int .u64 (h.every : Nat)) (HD.H h)) := by
  have pk := pow_int h.n
  have p1 := Nat.pow_pos (n := h.n) (show 0 < 2 by omega)
  have p2 : 2 ^ h.n ≤ 2 ^ 7 := Nat.pow_le_pow_right (by omega) hn
  have pe : (1 : Int) * 2 ^ ((h.n : Nat) : Int).toNat - 1 = ((h.every : Nat) : Int) := by
    rw [pk]
    unfold HD.every
    omega
  have p3 := HD.every_lt hn
  have pk0 : (0 : Int) ≤ 1 * 2 ^ ((h.n : Nat) : Int).toNat := by rw [pk]; exact Int.natCast_nonneg _
  refine callR (E := E) E_ok Try.func67 rfl ?_
  (repeat' (first | exact trivial | exact fun _ => rfl | exact rfl | refine And.intro ?_ ?_))
  all_goals first | (first | omega | exact u0 (by omega) | exact u1 (by omega) | exact u1 ⟨by omega, by omega⟩ | exact un (by omega) | exact fun hh => hh | exact fun hh => absurd hh (by decide) | exact fun hh => congrArg not hh | exact fun hh => Bool.noConfusion (show true = false from hh) | exact fun hh => Bool.noConfusion (show false = true from hh)) | exact pk0 | (rw [pk]; omega) | (rw [pe]; omega) | exact u0 (show ((h.n : Nat) : Int) < 64 by omega) | skip
  refine ent_tau [0] ⟨by (repeat' (first | exact trivial | exact rfl | exact fun _ _ => rfl | exact Or.inl rfl | refine And.intro ?_ ?_)), ⟨rfl, ?_, trivial⟩, rfl⟩
  exact congrArg (SV.int .u64) pe
theorem t51c (f : Nat → Nat) (hf : ∀ j, j < 7 → f j < 128) (i k : Nat) (hi : i < 7) (hk : k < 7) :
    CallP Try.prog 51 [.int .u64 ([((f 0 : Nat) : Int), (f 1 : Nat), (f 2 : Nat), (f 3 : Nat), (f 4 : Nat), (f 5 : Nat), (f 6 : Nat)].getD ((i : Nat) : Int).toNat 0), .int .i64 k] [] (Ret (.bool ((f i).testBit k)) []) := by
  have e := get7 (fun j => ((f j : Nat) : Int)) i hi
  rw [Int.toNat_natCast]
  refine e.symm ▸ ?_
  exact t51 (f i) (Nat.lt_trans (hf i hi) (by decide)) k ⟨by omega, by omega⟩
theorem t57 (f : Nat → Nat) (hf : ∀ j, j < 7 → f j < 128) (i k : Nat) (hi : i < 7) (hk : k < 7) :
    CallP Try.prog 57 [.agg (chI fun j => (f j : Nat)), .int .i64 i, .int .i64 k] [] (Ret (.bool (!(f i).testBit k && !(f k).testBit i)) []) := by
  refine callR (E := E) E_ok Try.func57 rfl ?_
  (repeat' (first | exact trivial | exact fun _ => rfl | exact rfl | refine And.intro ?_ ?_))
  all_goals first | (first | omega | exact u0 (by omega) | exact u1 (by omega) | exact u1 ⟨by omega, by omega⟩ | exact un (by omega) | exact fun hh => hh | exact fun hh => absurd hh (by decide) | exact fun hh => congrArg not hh | exact fun hh => Bool.noConfusion (show true = false from hh) | exact fun hh => Bool.noConfusion (show false = true from hh)) | skip
  refine (t51c f hf i k hi hk).use [] ?_ trivial rfl
  cases (f i).testBit k with
  | true =>
    refine And.intro ?_ (And.intro (fun hg => absurd hg (by decide)) (fun hg => ?_))
    · (repeat' (first | exact trivial | exact fun _ => rfl | exact rfl | refine And.intro ?_ ?_))
      all_goals first | (first | omega | exact u0 (by omega) | exact u1 (by omega) | exact u1 ⟨by omega, by omega⟩ | exact un (by omega) | exact fun hh => hh | exact fun hh => absurd hh (by decide) | exact fun hh => congrArg not hh | exact fun hh => Bool.noConfusion (show true = false from hh) | exact fun hh => Bool.noConfusion (show false = true from hh)) | skip
    · (repeat' (first | exact trivial | exact fun _ => rfl | exact rfl | refine And.intro ?_ ?_))
      all_goals first | (first | omega | exact u0 (by omega) | exact u1 (by omega) | exact u1 ⟨by omega, by omega⟩ | exact un (by omega) | exact fun hh => hh | exact fun hh => absurd hh (by decide) | exact fun hh => congrArg not hh | exact fun hh => Bool.noConfusion (show true = false from hh) | exact fun hh => Bool.noConfusion (show false = true from hh)) | skip
      exact ent_tau [] ⟨by (repeat' (first | exact trivial | exact rfl | exact fun _ _ => rfl | exact Or.inl rfl | refine And.intro ?_ ?_)), by (repeat' (first | exact trivial | exact rfl | exact congrArg (SV.int .i64) (Int.natCast_succ _).symm | exact congrArg (SV.int .u64) (Int.natCast_succ _).symm | refine And.intro ?_ ?_)), rfl⟩
  | false =>
    refine And.intro ?_ (And.intro (fun hg => ?_) (fun hg => absurd hg (by decide)))
    · (repeat' (first | exact trivial | exact fun _ => rfl | exact rfl | refine And.intro ?_ ?_))
      all_goals first | (first | omega | exact u0 (by omega) | exact u1 (by omega) | exact u1 ⟨by omega, by omega⟩ | exact un (by omega) | exact fun hh => hh | exact fun hh => absurd hh (by decide) | exact fun hh => congrArg not hh | exact fun hh => Bool.noConfusion (show true = false from hh) | exact fun hh => Bool.noConfusion (show false = true from hh)) | skip
    · refine (t51c f hf k i hk hi).use [] ?_ trivial rfl
      (repeat' (first | exact trivial | exact fun _ => rfl | exact rfl | refine And.intro ?_ ?_))
      all_goals first | (first | omega | exact u0 (by omega) | exact u1 (by omega) | exact u1 ⟨by omega, by omega⟩ | exact un (by omega) | exact fun hh => hh | exact fun hh => absurd hh (by decide) | exact fun hh => congrArg not hh | exact fun hh => Bool.noConfusion (show true = false from hh) | exact fun hh => Bool.noConfusion (show false = true from hh)) | skip
      exact ent_tau [] ⟨by (repeat' (first | exact trivial | exact rfl | exact fun _ _ => rfl | exact Or.inl rfl | refine And.intro ?_ ?_)), by (repeat' (first | exact trivial | exact rfl | exact congrArg (SV.int .i64) (Int.natCast_succ _).symm | exact congrArg (SV.int .u64) (Int.natCast_succ _).symm | refine And.intro ?_ ?_)), rfl⟩
end Go.Proofs.Ytgofhjihkinknaa
