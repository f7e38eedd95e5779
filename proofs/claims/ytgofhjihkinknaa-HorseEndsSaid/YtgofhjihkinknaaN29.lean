/-
  Parts: Tg, Th.
-/
import Derived.Test.YtgofhjihkinknaaN28
import Derived.Test.YtgofhjihkinknaaN26
import Derived.Test.YtgofhjihkinknaaN27
set_option linter.unusedVariables false
/-
  HorseEnds: how long moves take, and how many are under way.
-/
namespace Go.Proofs.Ytgofhjihkinknaa
open Go Go.Sy Kuhn
set_option linter.unusedSimpArgs false
set_option maxRecDepth 100000
set_option maxHeartbeats 4000000
attribute [local irreducible] CallP CodeP Ent YieldP
set_option maxHeartbeats 80000000
attribute [local irreducible] HD.ch maskO

def rowJ (f : Nat → Int) (k : Nat) : List SV := [.int .i64 (f k)]
def H7u (h : HD) (y p : PD) (w1 w2 : Int) : SHeap := H7y h y p ++ [some (.cells [.int .i64 w1, .int .i64 w2])]
def V7u (p : PD) (m : Int) : List (Nat × SV) := [(3, .ptr 2 0), (6, .bool false), (11, .osl p.b 3 1 p.n p.cap), (14, .int .i64 m), (15, .ptr 4 0)]
theorem seg7v1 (h : HD) (hv : h.Valid) (y p : PD) (hpl : pok h p = true) (b : Bool) (cl ch : Nat) (m : Int) (hm : 0 ≤ m ∧ m ≤ 220) (N : Nat) (hN : N = h.n) (w1 w2 : Int) (hw1 : w1 = bz h false m h.n) (hw2 : w2 = bz h true m h.n)
    (seg : CodeP Try.prog none 2 (sufC Try.f7 13) ⟨T7y p, H7y h y p, []⟩ (KRet E Try.f7 2 (.bool true) (H7 h y))) :
    CodeP Try.prog none 2 (sufC Try.f7 8) ⟨mkT [] (V7u p m ++ [(12, .osl b 5 1 N cl), (13, .osl b 6 1 N ch)]) 0 (List.replicate 320 none), H7y h y p ++ [some (.roc [.int .i64 w1, .int .i64 w2]), some (.roa 1 N (rowJ h.lo)), some (.roa 1 N (rowJ h.hi))], []⟩ (KRet E Try.f7 2 (.bool true) (H7 h y)) := by
  subst hN
  subst hw1
  subst hw2
  refine CodeP.pre ?_ (seg7v h hv y p hpl b cl ch m hm seg)
  exact ent_tau [0, 1, 2, 3, 4, 5, 6] ⟨by (repeat' (first | exact trivial | exact rfl | exact fun _ _ => rfl | exact fun _ _ _ _ => rfl | exact Or.inl rfl | exact Or.inr rfl | refine And.intro ?_ ?_)), by (repeat' (first | exact trivial | exact rfl | exact congrArg (SV.int .i64) (Int.natCast_succ _).symm | exact congrArg (SV.int .u64) (Int.natCast_succ _).symm | refine And.intro ?_ ?_)), rfl⟩
theorem bzG {h : HD} {s : Bool} {m : Int} {i j : Nat} (hj : j = i) : (bif decide (h.at' j ≤ m) then decide (m < h.at' j + h.takes s j) else false) = true ↔ h.at' i ≤ m ∧ m < h.at' i + h.takes s i := by
  subst hj
  by_cases c : h.at' j ≤ m <;> simp [c]
theorem bz_t {h : HD} {s : Bool} {m w : Int} {i j : Nat} (hj : j = i) (hw : w = bz h s m i) (g : (bif decide (h.at' j ≤ m) then decide (m < h.at' j + h.takes s j) else false) = true) : w + 1 = bz h s m (i + 1) := by
  rw [bz, if_pos ((bzG hj).1 g), hw]
theorem bz_f {h : HD} {s : Bool} {m w : Int} {i j : Nat} (hj : j = i) (hw : w = bz h s m i) (g : (bif decide (h.at' j ≤ m) then decide (m < h.at' j + h.takes s j) else false) = false) : w = bz h s m (i + 1) := by
  rw [bz, if_neg (fun q => by rw [(bzG hj).2 q] at g; cases g), hw, Int.add_zero]
theorem row7 (f : Nat → Int) (k j : Nat) (hj : j = k + 1) : ∀ q, q < k + 1 + 1 → selL (decide (q < k + 1)) (rowJ f q) (getOf 1 (splice (repL 1 [SV.int .i64 0]) (0 * 1) [SV.int .i64 (f j)]) (0 + (q - (k + 1)))) = rowJ f q := by
  intro q hq
  subst hj
  by_cases c : q < k + 1
  · rw [decide_eq_true c, selL_true]
  · have e : q = k + 1 := by omega
    subst e
    rw [decide_eq_false c, selL_false, Nat.sub_self]
    rfl
theorem one1 {get : Nat → List SV} (h : allOne (get 0) = true) : allOneN get 0 1 := fun k hk => by
  have h0 : k = 0 := Nat.lt_one_iff.1 hk
  subst h0
  exact h
theorem seg7u (h : HD) (hv : h.Valid) (y p : PD) (hpl : pok h p = true) (m : Int) (hm : 0 ≤ m ∧ m ≤ 220)
    (seg : CodeP Try.prog none 2 (sufC Try.f7 13) ⟨T7y p, H7y h y p, []⟩ (KRet E Try.f7 2 (.bool true) (H7 h y))) :
    CodeP Try.prog none 2 (sufC Try.f7 7) ⟨mkT [] (V7u p m ++ [(12, .snil), (13, .snil)]) 0 (List.replicate 320 none), H7u h y p 0 0, []⟩ (KRet E Try.f7 2 (.bool true) (H7 h y)) := by
  have hn := hv.2.1
  have seg2 := fun b cl ch N hN w1 w2 e1 e2 => seg7v1 h hv y p hpl b cl ch m hm N hN w1 w2 e1 e2 seg
  refine codeP_XK E_ok 1 ?_
  (repeat' (first | exact trivial | exact fun _ => rfl | exact rfl | refine And.intro ?_ ?_))
  refine loopP E_ok [3, 6, 11, 14, 15, 79, 80] (fun g : Nat × Nat × Nat × Int × Int => match g.1 with | 0 => [(12, .snil), (13, .snil), (81, .int .i64 0)] | k + 1 => [(12, .slice 5 1 0 (k + 1) g.2.1), (13, .slice 6 1 0 (k + 1) g.2.2.1), (81, .int .i64 (k + 1 : Nat))])
    (fun g _ => match g.1 with | 0 => H7u h y p g.2.2.2.1 g.2.2.2.2 | k + 1 => H7u h y p g.2.2.2.1 g.2.2.2.2 ++ [some (.arr 1 (k + 1) g.2.1 (rowJ h.lo)), some (.arr 1 (k + 1) g.2.2.1 (rowJ h.hi))])
    (fun g => g.1 ≤ h.n ∧ (0 < g.1 → (g.1 ≤ g.2.1 ∧ g.2.1 ≤ 9223372036854775807) ∧ g.1 ≤ g.2.2.1 ∧ g.2.2.1 ≤ 9223372036854775807) ∧ g.2.2.2.1 = bz h false m g.1 ∧ g.2.2.2.2 = bz h true m g.1) (fun g => h.n - g.1) (0, 0, 0, 0, 0) ⟨Nat.zero_le _, fun h => absurd h (Nat.lt_irrefl 0), rfl, rfl⟩ ?_ ?_
  · exact ent_tau [0, 1, 2, 3, 4] ⟨by (repeat' (first | exact trivial | exact rfl | exact fun _ _ => rfl | exact fun _ _ _ _ => rfl | exact Or.inl rfl | exact Or.inr rfl | refine And.intro ?_ ?_)), by (repeat' (first | exact trivial | exact rfl | exact congrArg (SV.int .i64) (Int.natCast_succ _).symm | exact congrArg (SV.int .u64) (Int.natCast_succ _).symm | refine And.intro ?_ ?_)), rfl⟩
  rintro ⟨i, cl, ch, w1, w2⟩ ⟨hi, hcap, hw1, hw2⟩
  simp only at hi hcap hw1 hw2
  have zb1 := bz_le h false m i
  have zb2 := bz_le h true m i
  rw [← hw1] at zb1
  rw [← hw2] at zb2
  cases i with
  | zero =>
    refine And.intro ?_ (And.intro (fun hlt => ?_) (fun hlt => ?_))
    · (repeat' (first | exact trivial | exact fun _ => rfl | exact rfl | refine And.intro ?_ ?_))
    · have hlt' : 0 < h.n := by
        have := of_decide_eq_true hlt
        omega
      have hA0 : 0 + Int.toNat 0 = 0 := rfl
      have mi := hv.2.2 (0 + Int.toNat 0) (by omega)
      unfold HD.okMv at mi
      have hA : InR .i64 (h.at' (0 + Int.toNat 0) + h.lo (0 + Int.toNat 0)) := ⟨by omega, by omega⟩
      have hB : InR .i64 (h.at' (0 + Int.toNat 0) + h.hi (0 + Int.toNat 0)) := ⟨by omega, by omega⟩
      (repeat' (first | exact trivial | exact fun _ => rfl | exact rfl | refine And.intro ?_ ?_))
      all_goals first | ((with_reducible show under _ _); first | exact u0 (by omega) | exact fun hh => hh | exact fun hh => congrArg not hh | exact fun _ _ => rfl | exact fun hh => hh ▸ rfl | exact fun _ => hA | exact fun _ => hB | (simp [under, gB, wB]; done)) | ((with_reducible show (_ : Int) ≤ _); first | omega | (simp only; omega)) | ((with_reducible show (_ : Nat) ≤ _); first | omega | decide | (show (k + 1 + 1) * 8 ≤ 140737488355328; omega) | (show _ * 8 ≤ _; omega)) | ((with_reducible show (_ : Nat) < _); first | omega | decide) | ((with_reducible show allOneN _ _ _); exact one1 rfl) | skip
      refine drawP E_ok [5] pl7_14 (by kernel_rfl) ?_
      all_goals (repeat' (first | exact trivial | exact fun _ => rfl | exact rfl | refine And.intro ?_ ?_))
      all_goals first | ((with_reducible show under _ _); first | exact u0 (by omega) | exact fun hh => hh | exact fun hh => congrArg not hh | exact fun _ _ => rfl | exact fun hh => hh ▸ rfl | exact fun _ => hA | exact fun _ => hB | (simp [under, gB, wB]; done)) | ((with_reducible show (_ : Int) ≤ _); first | omega | (simp only; omega)) | ((with_reducible show (_ : Nat) ≤ _); first | omega | decide | (show (k + 1 + 1) * 8 ≤ 140737488355328; omega) | (show _ * 8 ≤ _; omega)) | ((with_reducible show (_ : Nat) < _); first | omega | decide) | ((with_reducible show allOneN _ _ _); exact one1 rfl) | skip
      all_goals intro c1 a1 a2
      all_goals (repeat' (first | exact trivial | exact fun _ => rfl | exact rfl | refine And.intro ?_ ?_))
      all_goals first | ((with_reducible show under _ _); first | exact u0 (by omega) | exact fun hh => hh | exact fun hh => congrArg not hh | exact fun _ _ => rfl | exact fun hh => hh ▸ rfl | exact fun _ => hA | exact fun _ => hB | (simp [under, gB, wB]; done)) | ((with_reducible show (_ : Int) ≤ _); first | omega | (simp only; omega)) | ((with_reducible show (_ : Nat) ≤ _); first | omega | decide | (show (k + 1 + 1) * 8 ≤ 140737488355328; omega) | (show _ * 8 ≤ _; omega)) | ((with_reducible show (_ : Nat) < _); first | omega | decide) | ((with_reducible show allOneN _ _ _); exact one1 rfl) | skip
      all_goals intro c2 a3 a4
      all_goals (repeat' (first | exact trivial | exact fun _ => rfl | exact rfl | refine And.intro ?_ ?_))
      all_goals first | ((with_reducible show under _ _); first | exact u0 (by omega) | exact fun hh => hh | exact fun hh => congrArg not hh | exact fun _ _ => rfl | exact fun hh => hh ▸ rfl | exact fun _ => hA | exact fun _ => hB | (simp [under, gB, wB]; done)) | ((with_reducible show (_ : Int) ≤ _); first | omega | (simp only; omega)) | ((with_reducible show (_ : Nat) ≤ _); first | omega | decide | (show (k + 1 + 1) * 8 ≤ 140737488355328; omega) | (show _ * 8 ≤ _; omega)) | ((with_reducible show (_ : Nat) < _); first | omega | decide) | ((with_reducible show allOneN _ _ _); exact one1 rfl) | skip
      all_goals intro g1
      all_goals (repeat' (first | exact trivial | exact fun _ => rfl | exact rfl | refine And.intro ?_ ?_))
      all_goals first | ((with_reducible show under _ _); first | exact u0 (by omega) | exact fun hh => hh | exact fun hh => congrArg not hh | exact fun _ _ => rfl | exact fun hh => hh ▸ rfl | exact fun _ => hA | exact fun _ => hB | (simp [under, gB, wB]; done)) | ((with_reducible show (_ : Int) ≤ _); first | omega | (simp only; omega)) | ((with_reducible show (_ : Nat) ≤ _); first | omega | decide | (show (k + 1 + 1) * 8 ≤ 140737488355328; omega) | (show _ * 8 ≤ _; omega)) | ((with_reducible show (_ : Nat) < _); first | omega | decide) | ((with_reducible show allOneN _ _ _); exact one1 rfl) | skip
      all_goals intro g2
      all_goals (repeat' (first | exact trivial | exact fun _ => rfl | exact rfl | refine And.intro ?_ ?_))
      all_goals first | ((with_reducible show under _ _); first | exact u0 (by omega) | exact fun hh => hh | exact fun hh => congrArg not hh | exact fun _ _ => rfl | exact fun hh => hh ▸ rfl | exact fun _ => hA | exact fun _ => hB | (simp [under, gB, wB]; done)) | ((with_reducible show (_ : Int) ≤ _); first | omega | (simp only; omega)) | ((with_reducible show (_ : Nat) ≤ _); first | omega | decide | (show (k + 1 + 1) * 8 ≤ 140737488355328; omega) | (show _ * 8 ≤ _; omega)) | ((with_reducible show (_ : Nat) < _); first | omega | decide) | ((with_reducible show allOneN _ _ _); exact one1 rfl) | skip
      · refine ⟨(0 + 1, c1, c2, w1 + 1, w2 + 1), ⟨hlt', fun _ => ⟨⟨a1, a2⟩, a3, a4⟩, bz_t hA0 hw1 g1, bz_t hA0 hw2 g2⟩, by simp only; omega, ?_⟩
        refine ent_tau [0, 1, 2, 3, 4, 7, 9] ⟨?_, by (repeat' (first | exact trivial | exact rfl | exact congrArg (SV.int .i64) (Int.natCast_succ _).symm | exact congrArg (SV.int .u64) (Int.natCast_succ _).symm | refine And.intro ?_ ?_)), rfl⟩
        (repeat' (first | exact trivial | exact rfl | exact fun _ _ => rfl | exact fun _ _ _ _ => rfl | exact Or.inl rfl | exact Or.inr rfl | refine And.intro ?_ ?_))
        all_goals exact (fun q hq => by have h0 : q = 0 := Nat.lt_one_iff.1 hq; subst h0; rfl)
      · refine ⟨(0 + 1, c1, c2, w1 + 1, w2), ⟨hlt', fun _ => ⟨⟨a1, a2⟩, a3, a4⟩, bz_t hA0 hw1 g1, bz_f hA0 hw2 g2⟩, by simp only; omega, ?_⟩
        refine ent_tau [0, 1, 2, 3, 4, 7, 9] ⟨?_, by (repeat' (first | exact trivial | exact rfl | exact congrArg (SV.int .i64) (Int.natCast_succ _).symm | exact congrArg (SV.int .u64) (Int.natCast_succ _).symm | refine And.intro ?_ ?_)), rfl⟩
        (repeat' (first | exact trivial | exact rfl | exact fun _ _ => rfl | exact fun _ _ _ _ => rfl | exact Or.inl rfl | exact Or.inr rfl | refine And.intro ?_ ?_))
        all_goals exact (fun q hq => by have h0 : q = 0 := Nat.lt_one_iff.1 hq; subst h0; rfl)
      · refine ⟨(0 + 1, c1, c2, w1, w2 + 1), ⟨hlt', fun _ => ⟨⟨a1, a2⟩, a3, a4⟩, bz_f hA0 hw1 g1, bz_t hA0 hw2 g2⟩, by simp only; omega, ?_⟩
        refine ent_tau [0, 1, 2, 3, 4, 7, 9] ⟨?_, by (repeat' (first | exact trivial | exact rfl | exact congrArg (SV.int .i64) (Int.natCast_succ _).symm | exact congrArg (SV.int .u64) (Int.natCast_succ _).symm | refine And.intro ?_ ?_)), rfl⟩
        (repeat' (first | exact trivial | exact rfl | exact fun _ _ => rfl | exact fun _ _ _ _ => rfl | exact Or.inl rfl | exact Or.inr rfl | refine And.intro ?_ ?_))
        all_goals exact (fun q hq => by have h0 : q = 0 := Nat.lt_one_iff.1 hq; subst h0; rfl)
      · refine ⟨(0 + 1, c1, c2, w1, w2), ⟨hlt', fun _ => ⟨⟨a1, a2⟩, a3, a4⟩, bz_f hA0 hw1 g1, bz_f hA0 hw2 g2⟩, by simp only; omega, ?_⟩
        refine ent_tau [0, 1, 2, 3, 4, 7, 9] ⟨?_, by (repeat' (first | exact trivial | exact rfl | exact congrArg (SV.int .i64) (Int.natCast_succ _).symm | exact congrArg (SV.int .u64) (Int.natCast_succ _).symm | refine And.intro ?_ ?_)), rfl⟩
        (repeat' (first | exact trivial | exact rfl | exact fun _ _ => rfl | exact fun _ _ _ _ => rfl | exact Or.inl rfl | exact Or.inr rfl | refine And.intro ?_ ?_))
        all_goals exact (fun q hq => by have h0 : q = 0 := Nat.lt_one_iff.1 hq; subst h0; rfl)
      · refine ⟨(0 + 1, c1, c2, w1 + 1, w2 + 1), ⟨hlt', fun _ => ⟨⟨a1, a2⟩, a3, a4⟩, bz_t hA0 hw1 g1, bz_t hA0 hw2 g2⟩, by simp only; omega, ?_⟩
        refine ent_tau [0, 1, 2, 3, 4, 8, 9] ⟨?_, by (repeat' (first | exact trivial | exact rfl | exact congrArg (SV.int .i64) (Int.natCast_succ _).symm | exact congrArg (SV.int .u64) (Int.natCast_succ _).symm | refine And.intro ?_ ?_)), rfl⟩
        (repeat' (first | exact trivial | exact rfl | exact fun _ _ => rfl | exact fun _ _ _ _ => rfl | exact Or.inl rfl | exact Or.inr rfl | refine And.intro ?_ ?_))
        all_goals exact (fun q hq => by have h0 : q = 0 := Nat.lt_one_iff.1 hq; subst h0; rfl)
      · refine ⟨(0 + 1, c1, c2, w1 + 1, w2), ⟨hlt', fun _ => ⟨⟨a1, a2⟩, a3, a4⟩, bz_t hA0 hw1 g1, bz_f hA0 hw2 g2⟩, by simp only; omega, ?_⟩
        refine ent_tau [0, 1, 2, 3, 4, 8, 9] ⟨?_, by (repeat' (first | exact trivial | exact rfl | exact congrArg (SV.int .i64) (Int.natCast_succ _).symm | exact congrArg (SV.int .u64) (Int.natCast_succ _).symm | refine And.intro ?_ ?_)), rfl⟩
        (repeat' (first | exact trivial | exact rfl | exact fun _ _ => rfl | exact fun _ _ _ _ => rfl | exact Or.inl rfl | exact Or.inr rfl | refine And.intro ?_ ?_))
        all_goals exact (fun q hq => by have h0 : q = 0 := Nat.lt_one_iff.1 hq; subst h0; rfl)
      · refine ⟨(0 + 1, c1, c2, w1, w2 + 1), ⟨hlt', fun _ => ⟨⟨a1, a2⟩, a3, a4⟩, bz_f hA0 hw1 g1, bz_t hA0 hw2 g2⟩, by simp only; omega, ?_⟩
        refine ent_tau [0, 1, 2, 3, 4, 8, 9] ⟨?_, by (repeat' (first | exact trivial | exact rfl | exact congrArg (SV.int .i64) (Int.natCast_succ _).symm | exact congrArg (SV.int .u64) (Int.natCast_succ _).symm | refine And.intro ?_ ?_)), rfl⟩
        (repeat' (first | exact trivial | exact rfl | exact fun _ _ => rfl | exact fun _ _ _ _ => rfl | exact Or.inl rfl | exact Or.inr rfl | refine And.intro ?_ ?_))
        all_goals exact (fun q hq => by have h0 : q = 0 := Nat.lt_one_iff.1 hq; subst h0; rfl)
      · refine ⟨(0 + 1, c1, c2, w1, w2), ⟨hlt', fun _ => ⟨⟨a1, a2⟩, a3, a4⟩, bz_f hA0 hw1 g1, bz_f hA0 hw2 g2⟩, by simp only; omega, ?_⟩
        refine ent_tau [0, 1, 2, 3, 4, 8, 9] ⟨?_, by (repeat' (first | exact trivial | exact rfl | exact congrArg (SV.int .i64) (Int.natCast_succ _).symm | exact congrArg (SV.int .u64) (Int.natCast_succ _).symm | refine And.intro ?_ ?_)), rfl⟩
        (repeat' (first | exact trivial | exact rfl | exact fun _ _ => rfl | exact fun _ _ _ _ => rfl | exact Or.inl rfl | exact Or.inr rfl | refine And.intro ?_ ?_))
        all_goals exact (fun q hq => by have h0 : q = 0 := Nat.lt_one_iff.1 hq; subst h0; rfl)
      · refine ⟨(0 + 1, c1, c2, w1 + 1, w2 + 1), ⟨hlt', fun _ => ⟨⟨a1, a2⟩, a3, a4⟩, bz_t hA0 hw1 g1, bz_t hA0 hw2 g2⟩, by simp only; omega, ?_⟩
        refine ent_tau [0, 1, 2, 3, 4, 8, 9] ⟨?_, by (repeat' (first | exact trivial | exact rfl | exact congrArg (SV.int .i64) (Int.natCast_succ _).symm | exact congrArg (SV.int .u64) (Int.natCast_succ _).symm | refine And.intro ?_ ?_)), rfl⟩
        (repeat' (first | exact trivial | exact rfl | exact fun _ _ => rfl | exact fun _ _ _ _ => rfl | exact Or.inl rfl | exact Or.inr rfl | refine And.intro ?_ ?_))
        all_goals exact (fun q hq => by have h0 : q = 0 := Nat.lt_one_iff.1 hq; subst h0; rfl)
      · refine ⟨(0 + 1, c1, c2, w1 + 1, w2), ⟨hlt', fun _ => ⟨⟨a1, a2⟩, a3, a4⟩, bz_t hA0 hw1 g1, bz_f hA0 hw2 g2⟩, by simp only; omega, ?_⟩
        refine ent_tau [0, 1, 2, 3, 4, 8, 9] ⟨?_, by (repeat' (first | exact trivial | exact rfl | exact congrArg (SV.int .i64) (Int.natCast_succ _).symm | exact congrArg (SV.int .u64) (Int.natCast_succ _).symm | refine And.intro ?_ ?_)), rfl⟩
        (repeat' (first | exact trivial | exact rfl | exact fun _ _ => rfl | exact fun _ _ _ _ => rfl | exact Or.inl rfl | exact Or.inr rfl | refine And.intro ?_ ?_))
        all_goals exact (fun q hq => by have h0 : q = 0 := Nat.lt_one_iff.1 hq; subst h0; rfl)
      · refine ⟨(0 + 1, c1, c2, w1, w2 + 1), ⟨hlt', fun _ => ⟨⟨a1, a2⟩, a3, a4⟩, bz_f hA0 hw1 g1, bz_t hA0 hw2 g2⟩, by simp only; omega, ?_⟩
        refine ent_tau [0, 1, 2, 3, 4, 8, 9] ⟨?_, by (repeat' (first | exact trivial | exact rfl | exact congrArg (SV.int .i64) (Int.natCast_succ _).symm | exact congrArg (SV.int .u64) (Int.natCast_succ _).symm | refine And.intro ?_ ?_)), rfl⟩
        (repeat' (first | exact trivial | exact rfl | exact fun _ _ => rfl | exact fun _ _ _ _ => rfl | exact Or.inl rfl | exact Or.inr rfl | refine And.intro ?_ ?_))
        all_goals exact (fun q hq => by have h0 : q = 0 := Nat.lt_one_iff.1 hq; subst h0; rfl)
      · refine ⟨(0 + 1, c1, c2, w1, w2), ⟨hlt', fun _ => ⟨⟨a1, a2⟩, a3, a4⟩, bz_f hA0 hw1 g1, bz_f hA0 hw2 g2⟩, by simp only; omega, ?_⟩
        refine ent_tau [0, 1, 2, 3, 4, 8, 9] ⟨?_, by (repeat' (first | exact trivial | exact rfl | exact congrArg (SV.int .i64) (Int.natCast_succ _).symm | exact congrArg (SV.int .u64) (Int.natCast_succ _).symm | refine And.intro ?_ ?_)), rfl⟩
        (repeat' (first | exact trivial | exact rfl | exact fun _ _ => rfl | exact fun _ _ _ _ => rfl | exact Or.inl rfl | exact Or.inr rfl | refine And.intro ?_ ?_))
        all_goals exact (fun q hq => by have h0 : q = 0 := Nat.lt_one_iff.1 hq; subst h0; rfl)
    · have e : h.n = 0 := by
        have := of_decide_eq_false hlt
        try simp only at this
        omega
      (repeat' (first | exact trivial | exact fun _ => rfl | exact rfl | refine And.intro ?_ ?_))
      refine CodeP.part (seg2 false 0 0 0 e.symm w1 w2 (by rw [e]; exact hw1) (by rw [e]; exact hw2)) ?_
      refine entPlan0 (T := mkT [] (V7u p m ++ [(12, .snil), (13, .snil)]) 0 (List.replicate 320 none)) (H := H7y h y p ++ [some (.roc [.int .i64 w1, .int .i64 w2]), some (.roa 1 0 (rowJ h.lo))]) (entAliasR (H := H7y h y p ++ [some (.roc [.int .i64 w1, .int .i64 w2])]) ?_ (i := 0) rfl) ?_ (i := 0) rfl
      · exact ent_tau [0, 1, 2, 3, 4] ⟨by (repeat' (first | exact trivial | exact rfl | exact fun _ _ => rfl | exact fun _ _ _ _ => rfl | exact Or.inl rfl | exact Or.inr rfl | refine And.intro ?_ ?_)), by (repeat' (first | exact trivial | exact rfl | exact congrArg (SV.int .i64) (Int.natCast_succ _).symm | exact congrArg (SV.int .u64) (Int.natCast_succ _).symm | refine And.intro ?_ ?_)), rfl⟩
      · (repeat' (first | exact trivial | exact rfl | exact fun η => rfl | exact fun η => by simp [den] | refine And.intro ?_ ?_))
  | succ k =>
    obtain ⟨⟨hc1, hc2⟩, hc3, hc4⟩ := hcap (by omega)
    refine And.intro ?_ (And.intro (fun hlt => ?_) (fun hlt => ?_))
    · (repeat' (first | exact trivial | exact fun _ => rfl | exact rfl | refine And.intro ?_ ?_))
    · have hlt' : k + 1 < h.n := by
        have := of_decide_eq_true hlt
        try simp only at this
        omega
      have hA0 := z1 (k + 1)
      have mi := hv.2.2 (0 + ((k + 1 : Nat) : Int).toNat) (by rw [hA0]; exact hlt')
      unfold HD.okMv at mi
      have hA : InR .i64 (h.at' (0 + ((k + 1 : Nat) : Int).toNat) + h.lo (0 + ((k + 1 : Nat) : Int).toNat)) := ⟨by omega, by omega⟩
      have hB : InR .i64 (h.at' (0 + ((k + 1 : Nat) : Int).toNat) + h.hi (0 + ((k + 1 : Nat) : Int).toNat)) := ⟨by omega, by omega⟩
      (repeat' (first | exact trivial | exact fun _ => rfl | exact rfl | refine And.intro ?_ ?_))
      all_goals first | ((with_reducible show under _ _); first | exact u0 (by omega) | exact fun hh => hh | exact fun hh => congrArg not hh | exact fun _ _ => rfl | exact fun hh => hh ▸ rfl | exact fun _ => hA | exact fun _ => hB | (simp [under, gB, wB]; done)) | ((with_reducible show (_ : Int) ≤ _); first | omega | (simp only; omega)) | ((with_reducible show (_ : Nat) ≤ _); first | omega | decide | (show (k + 1 + 1) * 8 ≤ 140737488355328; omega) | (show _ * 8 ≤ _; omega)) | ((with_reducible show (_ : Nat) < _); first | omega | decide) | ((with_reducible show allOneN _ _ _); exact one1 rfl) | skip
      refine drawP E_ok [7] pl7_14 (by kernel_rfl) ?_
      all_goals (repeat' (first | exact trivial | exact fun _ => rfl | exact rfl | refine And.intro ?_ ?_))
      all_goals first | ((with_reducible show under _ _); first | exact u0 (by omega) | exact fun hh => hh | exact fun hh => congrArg not hh | exact fun _ _ => rfl | exact fun hh => hh ▸ rfl | exact fun _ => hA | exact fun _ => hB | (simp [under, gB, wB]; done)) | ((with_reducible show (_ : Int) ≤ _); first | omega | (simp only; omega)) | ((with_reducible show (_ : Nat) ≤ _); first | omega | decide | (show (k + 1 + 1) * 8 ≤ 140737488355328; omega) | (show _ * 8 ≤ _; omega)) | ((with_reducible show (_ : Nat) < _); first | omega | decide) | ((with_reducible show allOneN _ _ _); exact one1 rfl) | skip
      all_goals intro c1 a1 a2
      all_goals (repeat' (first | exact trivial | exact fun _ => rfl | exact rfl | refine And.intro ?_ ?_))
      all_goals first | ((with_reducible show under _ _); first | exact u0 (by omega) | exact fun hh => hh | exact fun hh => congrArg not hh | exact fun _ _ => rfl | exact fun hh => hh ▸ rfl | exact fun _ => hA | exact fun _ => hB | (simp [under, gB, wB]; done)) | ((with_reducible show (_ : Int) ≤ _); first | omega | (simp only; omega)) | ((with_reducible show (_ : Nat) ≤ _); first | omega | decide | (show (k + 1 + 1) * 8 ≤ 140737488355328; omega) | (show _ * 8 ≤ _; omega)) | ((with_reducible show (_ : Nat) < _); first | omega | decide) | ((with_reducible show allOneN _ _ _); exact one1 rfl) | skip
      all_goals intro c2 a3 a4
      all_goals (repeat' (first | exact trivial | exact fun _ => rfl | exact rfl | refine And.intro ?_ ?_))
      all_goals first | ((with_reducible show under _ _); first | exact u0 (by omega) | exact fun hh => hh | exact fun hh => congrArg not hh | exact fun _ _ => rfl | exact fun hh => hh ▸ rfl | exact fun _ => hA | exact fun _ => hB | (simp [under, gB, wB]; done)) | ((with_reducible show (_ : Int) ≤ _); first | omega | (simp only; omega)) | ((with_reducible show (_ : Nat) ≤ _); first | omega | decide | (show (k + 1 + 1) * 8 ≤ 140737488355328; omega) | (show _ * 8 ≤ _; omega)) | ((with_reducible show (_ : Nat) < _); first | omega | decide) | ((with_reducible show allOneN _ _ _); exact one1 rfl) | skip
      all_goals intro g1
      all_goals (repeat' (first | exact trivial | exact fun _ => rfl | exact rfl | refine And.intro ?_ ?_))
      all_goals first | ((with_reducible show under _ _); first | exact u0 (by omega) | exact fun hh => hh | exact fun hh => congrArg not hh | exact fun _ _ => rfl | exact fun hh => hh ▸ rfl | exact fun _ => hA | exact fun _ => hB | (simp [under, gB, wB]; done)) | ((with_reducible show (_ : Int) ≤ _); first | omega | (simp only; omega)) | ((with_reducible show (_ : Nat) ≤ _); first | omega | decide | (show (k + 1 + 1) * 8 ≤ 140737488355328; omega) | (show _ * 8 ≤ _; omega)) | ((with_reducible show (_ : Nat) < _); first | omega | decide) | ((with_reducible show allOneN _ _ _); exact one1 rfl) | skip
      all_goals intro g2
      all_goals (repeat' (first | exact trivial | exact fun _ => rfl | exact rfl | refine And.intro ?_ ?_))
      all_goals first | ((with_reducible show under _ _); first | exact u0 (by omega) | exact fun hh => hh | exact fun hh => congrArg not hh | exact fun _ _ => rfl | exact fun hh => hh ▸ rfl | exact fun _ => hA | exact fun _ => hB | (simp [under, gB, wB]; done)) | ((with_reducible show (_ : Int) ≤ _); first | omega | (simp only; omega)) | ((with_reducible show (_ : Nat) ≤ _); first | omega | decide | (show (k + 1 + 1) * 8 ≤ 140737488355328; omega) | (show _ * 8 ≤ _; omega)) | ((with_reducible show (_ : Nat) < _); first | omega | decide) | ((with_reducible show allOneN _ _ _); exact one1 rfl) | skip
      · refine ⟨(k + 1 + 1, c1, c2, w1 + 1, w2 + 1), ⟨hlt', fun _ => ⟨⟨a1, a2⟩, a3, a4⟩, bz_t hA0 hw1 g1, bz_t hA0 hw2 g2⟩, by simp only; omega, ?_⟩
        refine ent_tau [0, 1, 2, 3, 4, 9, 11] ⟨?_, by (repeat' (first | exact trivial | exact rfl | exact congrArg (SV.int .i64) (Int.natCast_succ _).symm | exact congrArg (SV.int .u64) (Int.natCast_succ _).symm | refine And.intro ?_ ?_)), rfl⟩
        (repeat' (first | exact trivial | exact rfl | exact fun _ _ => rfl | exact fun _ _ _ _ => rfl | exact Or.inl rfl | exact Or.inr rfl | refine And.intro ?_ ?_))
        all_goals first | exact row7 h.lo k _ (z1 (k + 1)) | exact row7 h.hi k _ (z1 (k + 1))
      · refine ⟨(k + 1 + 1, c1, c2, w1 + 1, w2), ⟨hlt', fun _ => ⟨⟨a1, a2⟩, a3, a4⟩, bz_t hA0 hw1 g1, bz_f hA0 hw2 g2⟩, by simp only; omega, ?_⟩
        refine ent_tau [0, 1, 2, 3, 4, 9, 11] ⟨?_, by (repeat' (first | exact trivial | exact rfl | exact congrArg (SV.int .i64) (Int.natCast_succ _).symm | exact congrArg (SV.int .u64) (Int.natCast_succ _).symm | refine And.intro ?_ ?_)), rfl⟩
        (repeat' (first | exact trivial | exact rfl | exact fun _ _ => rfl | exact fun _ _ _ _ => rfl | exact Or.inl rfl | exact Or.inr rfl | refine And.intro ?_ ?_))
        all_goals first | exact row7 h.lo k _ (z1 (k + 1)) | exact row7 h.hi k _ (z1 (k + 1))
      · refine ⟨(k + 1 + 1, c1, c2, w1, w2 + 1), ⟨hlt', fun _ => ⟨⟨a1, a2⟩, a3, a4⟩, bz_f hA0 hw1 g1, bz_t hA0 hw2 g2⟩, by simp only; omega, ?_⟩
        refine ent_tau [0, 1, 2, 3, 4, 9, 11] ⟨?_, by (repeat' (first | exact trivial | exact rfl | exact congrArg (SV.int .i64) (Int.natCast_succ _).symm | exact congrArg (SV.int .u64) (Int.natCast_succ _).symm | refine And.intro ?_ ?_)), rfl⟩
        (repeat' (first | exact trivial | exact rfl | exact fun _ _ => rfl | exact fun _ _ _ _ => rfl | exact Or.inl rfl | exact Or.inr rfl | refine And.intro ?_ ?_))
        all_goals first | exact row7 h.lo k _ (z1 (k + 1)) | exact row7 h.hi k _ (z1 (k + 1))
      · refine ⟨(k + 1 + 1, c1, c2, w1, w2), ⟨hlt', fun _ => ⟨⟨a1, a2⟩, a3, a4⟩, bz_f hA0 hw1 g1, bz_f hA0 hw2 g2⟩, by simp only; omega, ?_⟩
        refine ent_tau [0, 1, 2, 3, 4, 9, 11] ⟨?_, by (repeat' (first | exact trivial | exact rfl | exact congrArg (SV.int .i64) (Int.natCast_succ _).symm | exact congrArg (SV.int .u64) (Int.natCast_succ _).symm | refine And.intro ?_ ?_)), rfl⟩
        (repeat' (first | exact trivial | exact rfl | exact fun _ _ => rfl | exact fun _ _ _ _ => rfl | exact Or.inl rfl | exact Or.inr rfl | refine And.intro ?_ ?_))
        all_goals first | exact row7 h.lo k _ (z1 (k + 1)) | exact row7 h.hi k _ (z1 (k + 1))
      · refine ⟨(k + 1 + 1, c1, c2, w1 + 1, w2 + 1), ⟨hlt', fun _ => ⟨⟨a1, a2⟩, a3, a4⟩, bz_t hA0 hw1 g1, bz_t hA0 hw2 g2⟩, by simp only; omega, ?_⟩
        refine ent_tau [0, 1, 2, 3, 4, 10, 11] ⟨?_, by (repeat' (first | exact trivial | exact rfl | exact congrArg (SV.int .i64) (Int.natCast_succ _).symm | exact congrArg (SV.int .u64) (Int.natCast_succ _).symm | refine And.intro ?_ ?_)), rfl⟩
        (repeat' (first | exact trivial | exact rfl | exact fun _ _ => rfl | exact fun _ _ _ _ => rfl | exact Or.inl rfl | exact Or.inr rfl | refine And.intro ?_ ?_))
        all_goals first | exact row7 h.lo k _ (z1 (k + 1)) | exact row7 h.hi k _ (z1 (k + 1))
      · refine ⟨(k + 1 + 1, c1, c2, w1 + 1, w2), ⟨hlt', fun _ => ⟨⟨a1, a2⟩, a3, a4⟩, bz_t hA0 hw1 g1, bz_f hA0 hw2 g2⟩, by simp only; omega, ?_⟩
        refine ent_tau [0, 1, 2, 3, 4, 10, 11] ⟨?_, by (repeat' (first | exact trivial | exact rfl | exact congrArg (SV.int .i64) (Int.natCast_succ _).symm | exact congrArg (SV.int .u64) (Int.natCast_succ _).symm | refine And.intro ?_ ?_)), rfl⟩
        (repeat' (first | exact trivial | exact rfl | exact fun _ _ => rfl | exact fun _ _ _ _ => rfl | exact Or.inl rfl | exact Or.inr rfl | refine And.intro ?_ ?_))
        all_goals first | exact row7 h.lo k _ (z1 (k + 1)) | exact row7 h.hi k _ (z1 (k + 1))
      · refine ⟨(k + 1 + 1, c1, c2, w1, w2 + 1), ⟨hlt', fun _ => ⟨⟨a1, a2⟩, a3, a4⟩, bz_f hA0 hw1 g1, bz_t hA0 hw2 g2⟩, by simp only; omega, ?_⟩
        refine ent_tau [0, 1, 2, 3, 4, 10, 11] ⟨?_, by (repeat' (first | exact trivial | exact rfl | exact congrArg (SV.int .i64) (Int.natCast_succ _).symm | exact congrArg (SV.int .u64) (Int.natCast_succ _).symm | refine And.intro ?_ ?_)), rfl⟩
        (repeat' (first | exact trivial | exact rfl | exact fun _ _ => rfl | exact fun _ _ _ _ => rfl | exact Or.inl rfl | exact Or.inr rfl | refine And.intro ?_ ?_))
        all_goals first | exact row7 h.lo k _ (z1 (k + 1)) | exact row7 h.hi k _ (z1 (k + 1))
      · refine ⟨(k + 1 + 1, c1, c2, w1, w2), ⟨hlt', fun _ => ⟨⟨a1, a2⟩, a3, a4⟩, bz_f hA0 hw1 g1, bz_f hA0 hw2 g2⟩, by simp only; omega, ?_⟩
        refine ent_tau [0, 1, 2, 3, 4, 10, 11] ⟨?_, by (repeat' (first | exact trivial | exact rfl | exact congrArg (SV.int .i64) (Int.natCast_succ _).symm | exact congrArg (SV.int .u64) (Int.natCast_succ _).symm | refine And.intro ?_ ?_)), rfl⟩
        (repeat' (first | exact trivial | exact rfl | exact fun _ _ => rfl | exact fun _ _ _ _ => rfl | exact Or.inl rfl | exact Or.inr rfl | refine And.intro ?_ ?_))
        all_goals first | exact row7 h.lo k _ (z1 (k + 1)) | exact row7 h.hi k _ (z1 (k + 1))
      · refine ⟨(k + 1 + 1, c1, c2, w1 + 1, w2 + 1), ⟨hlt', fun _ => ⟨⟨a1, a2⟩, a3, a4⟩, bz_t hA0 hw1 g1, bz_t hA0 hw2 g2⟩, by simp only; omega, ?_⟩
        refine ent_tau [0, 1, 2, 3, 4, 10, 11] ⟨?_, by (repeat' (first | exact trivial | exact rfl | exact congrArg (SV.int .i64) (Int.natCast_succ _).symm | exact congrArg (SV.int .u64) (Int.natCast_succ _).symm | refine And.intro ?_ ?_)), rfl⟩
        (repeat' (first | exact trivial | exact rfl | exact fun _ _ => rfl | exact fun _ _ _ _ => rfl | exact Or.inl rfl | exact Or.inr rfl | refine And.intro ?_ ?_))
        all_goals first | exact row7 h.lo k _ (z1 (k + 1)) | exact row7 h.hi k _ (z1 (k + 1))
      · refine ⟨(k + 1 + 1, c1, c2, w1 + 1, w2), ⟨hlt', fun _ => ⟨⟨a1, a2⟩, a3, a4⟩, bz_t hA0 hw1 g1, bz_f hA0 hw2 g2⟩, by simp only; omega, ?_⟩
        refine ent_tau [0, 1, 2, 3, 4, 10, 11] ⟨?_, by (repeat' (first | exact trivial | exact rfl | exact congrArg (SV.int .i64) (Int.natCast_succ _).symm | exact congrArg (SV.int .u64) (Int.natCast_succ _).symm | refine And.intro ?_ ?_)), rfl⟩
        (repeat' (first | exact trivial | exact rfl | exact fun _ _ => rfl | exact fun _ _ _ _ => rfl | exact Or.inl rfl | exact Or.inr rfl | refine And.intro ?_ ?_))
        all_goals first | exact row7 h.lo k _ (z1 (k + 1)) | exact row7 h.hi k _ (z1 (k + 1))
      · refine ⟨(k + 1 + 1, c1, c2, w1, w2 + 1), ⟨hlt', fun _ => ⟨⟨a1, a2⟩, a3, a4⟩, bz_f hA0 hw1 g1, bz_t hA0 hw2 g2⟩, by simp only; omega, ?_⟩
        refine ent_tau [0, 1, 2, 3, 4, 10, 11] ⟨?_, by (repeat' (first | exact trivial | exact rfl | exact congrArg (SV.int .i64) (Int.natCast_succ _).symm | exact congrArg (SV.int .u64) (Int.natCast_succ _).symm | refine And.intro ?_ ?_)), rfl⟩
        (repeat' (first | exact trivial | exact rfl | exact fun _ _ => rfl | exact fun _ _ _ _ => rfl | exact Or.inl rfl | exact Or.inr rfl | refine And.intro ?_ ?_))
        all_goals first | exact row7 h.lo k _ (z1 (k + 1)) | exact row7 h.hi k _ (z1 (k + 1))
      · refine ⟨(k + 1 + 1, c1, c2, w1, w2), ⟨hlt', fun _ => ⟨⟨a1, a2⟩, a3, a4⟩, bz_f hA0 hw1 g1, bz_f hA0 hw2 g2⟩, by simp only; omega, ?_⟩
        refine ent_tau [0, 1, 2, 3, 4, 10, 11] ⟨?_, by (repeat' (first | exact trivial | exact rfl | exact congrArg (SV.int .i64) (Int.natCast_succ _).symm | exact congrArg (SV.int .u64) (Int.natCast_succ _).symm | refine And.intro ?_ ?_)), rfl⟩
        (repeat' (first | exact trivial | exact rfl | exact fun _ _ => rfl | exact fun _ _ _ _ => rfl | exact Or.inl rfl | exact Or.inr rfl | refine And.intro ?_ ?_))
        all_goals first | exact row7 h.lo k _ (z1 (k + 1)) | exact row7 h.hi k _ (z1 (k + 1))
    · have e : h.n = k + 1 := by
        have := of_decide_eq_false hlt
        try simp only at this
        omega
      (repeat' (first | exact trivial | exact fun _ => rfl | exact rfl | refine And.intro ?_ ?_))
      refine CodeP.part (seg2 true cl ch (k + 1) e.symm w1 w2 (by rw [e]; exact hw1) (by rw [e]; exact hw2)) ?_
      refine entTmR (T := mkT [] (V7u p m ++ [(12, .slice 5 1 0 (k + 1) cl), (13, .slice 6 1 0 (k + 1) ch)]) 0 (List.replicate 320 none)) ?_ ?_
      · exact ent_tau [0, 1, 2, 3, 4, 5, 6] ⟨by (repeat' (first | exact trivial | exact rfl | exact fun _ _ => rfl | exact fun _ _ _ _ => rfl | exact Or.inl rfl | exact Or.inr rfl | refine And.intro ?_ ?_)), by (repeat' (first | exact trivial | exact rfl | exact congrArg (SV.int .i64) (Int.natCast_succ _).symm | exact congrArg (SV.int .u64) (Int.natCast_succ _).symm | refine And.intro ?_ ?_)), rfl⟩
      · (repeat' (first | exact trivial | exact rfl | exact fun η => rfl | exact fun η => by simp [den] | refine And.intro ?_ ?_))
end Go.Proofs.Ytgofhjihkinknaa
/-
  HorseEnds: the beginning.
-/
namespace Go.Proofs.Ytgofhjihkinknaa
open Go Go.Sy Kuhn
set_option linter.unusedSimpArgs false
set_option maxRecDepth 100000
set_option maxHeartbeats 4000000
attribute [local irreducible] CallP CodeP Ent YieldP
set_option maxHeartbeats 40000000
attribute [local irreducible] HD.ch maskO

theorem seg7y0 (h : HD) (hv : h.Valid) (y : PD) (h0 : h.n = 0) : CodeP Try.prog none 2 (sufC Try.f7 13) ⟨T7y (mkD y 0 false 0), H7y h y (mkD y 0 false 0), []⟩ (KRet E Try.f7 2 (.bool true) (H7 h y)) := by
  refine CodeP.pre (t := ⟨mkT [] [(3, .ptr 2 0), (6, .bool false), (11, .snil)] 0 (List.replicate 320 none), H7y h y (mkD y 0 false 0), []⟩) (entTm ?_) (CodeP.pre ?_ (seg7yA h hv y h0))
  · (repeat' (first | exact trivial | exact rfl | exact fun η => rfl | exact fun η => by simp [den, mkD] | refine And.intro ?_ ?_))
  · exact ent_tau [0, 1, 2] ⟨by (repeat' (first | exact trivial | exact rfl | exact fun _ _ => rfl | exact fun _ _ _ _ => rfl | exact Or.inl rfl | exact Or.inr rfl | refine And.intro ?_ ?_)), by (repeat' (first | exact trivial | exact rfl | exact congrArg (SV.int .i64) (Int.natCast_succ _).symm | exact congrArg (SV.int .u64) (Int.natCast_succ _).symm | refine And.intro ?_ ?_)), rfl⟩
theorem seg7y1 (h : HD) (hv : h.Valid) (y : PD) (k cap : Nat) (h0 : h.n = k + 1) (hc : h.n ≤ cap ∧ cap ≤ 9223372036854775807) : CodeP Try.prog none 2 (sufC Try.f7 13) ⟨T7y (mkD y (k + 1) true cap), H7y h y (mkD y (k + 1) true cap), []⟩ (KRet E Try.f7 2 (.bool true) (H7 h y)) := by
  refine CodeP.pre (t := ⟨mkT [] [(3, .ptr 2 0), (6, .bool false), (11, .slice 3 1 0 (k + 1) cap)] 0 (List.replicate 320 none), H7y h y (mkD y (k + 1) true cap), []⟩) (entTm ?_) (CodeP.pre ?_ (seg7yB h hv y (k + 1) cap (mkP y) h0.symm (by omega) (by omega)))
  · (repeat' (first | exact trivial | exact rfl | exact fun η => rfl | exact fun η => by simp [den, mkD] | refine And.intro ?_ ?_))
  · exact ent_tau [0, 1, 2, 3] ⟨by (repeat' (first | exact trivial | exact rfl | exact fun _ _ => rfl | exact fun _ _ _ _ => rfl | exact Or.inl rfl | exact Or.inr rfl | refine And.intro ?_ ?_)), by (repeat' (first | exact trivial | exact rfl | exact congrArg (SV.int .i64) (Int.natCast_succ _).symm | exact congrArg (SV.int .u64) (Int.natCast_succ _).symm | refine And.intro ?_ ?_)), rfl⟩
theorem t20n (h : HD) (hv : ¬ h.Valid) : CallP Try.prog 20 [HD.A h, .snil] (HD.H h) (Ret (.tup [.snil, .int .i64 1]) (HD.H h)) := by
  have c := t20 h ⟨0, fun _ => 0, false, 0⟩ (by decide) _ _ (.inr (.inl ⟨hv, rfl, rfl⟩))
  refine CallP.entR (h1 := HD.H h ++ [some (.roa 1 0 fun _ => [.int .i64 0])]) (v := .tup [.snil, .int .i64 1]) ?_ ?_
  · refine CallP.pre (args' := [HD.A h, .osl false 1 1 0 0]) ?_ c
    refine entAliasR (T := argT [HD.A h, .osl false 1 1 0 0]) (H := HD.H h) (entTm ?_) (i := 0) rfl
    exact ⟨rfl, fun η => rfl, rfl, fun η => by simp [den], trivial⟩
  · exact ent_tau [0] ⟨by (repeat' (first | exact trivial | exact rfl | exact fun _ _ => rfl | exact fun _ _ _ _ => rfl | exact Or.inl rfl | exact Or.inr rfl | refine And.intro ?_ ?_)), by (repeat' (first | exact trivial | exact rfl | exact congrArg (SV.int .i64) (Int.natCast_succ _).symm | exact congrArg (SV.int .u64) (Int.natCast_succ _).symm | refine And.intro ?_ ?_)), rfl⟩
theorem t7 (h : HD) (y : PD) (hy : BOk y) (hyn : y.n ≤ 9223372036854775807) (m : Int) (hm : 0 ≤ m ∧ m ≤ 255) : CallP Try.prog 7 [HD.A h, .osl y.b 1 1 y.n y.cap, .int .u8 m] (H7 h y) (Ret (.bool true) (H7 h y)) := by
  obtain ⟨b, hb⟩ : ∃ b, vb h = b := ⟨_, rfl⟩
  obtain ⟨f, hf⟩ : ∃ f, decide (40 < h.n) = f := ⟨_, rfl⟩
  have c14 := t14 h
  have c37 := t37 h
  rw [hf] at c14
  rw [hb] at c37
  have hmm : 0 ≤ m.tmod 221 ∧ m.tmod 221 ≤ 220 := ⟨Int.tmod_nonneg _ hm.1, by have := Int.tmod_lt_of_pos m (show (0 : Int) < 221 by omega); omega⟩
  refine callRK (E := E) E_ok 7 Try.func7 rfl ?_
  (repeat' (first | exact trivial | exact fun _ => rfl | exact rfl | refine And.intro ?_ ?_))
  refine c14.use [0] ?_ (by (repeat' (first | exact trivial | exact rfl | exact fun _ _ => rfl | exact fun _ _ _ _ => rfl | exact Or.inl rfl | exact Or.inr rfl | refine And.intro ?_ ?_))) rfl
  cases f with
  | true =>
    all_goals (repeat' (first | exact trivial | exact fun _ => rfl | exact rfl | refine And.intro ?_ ?_))
    all_goals first | exact True.intro | omega | exact u1 (lt64 (by omega)) | exact u0 (lt64 (by omega)) | (show under _ _; simp [under, gB, wB]; done) | (show under _ _; simp [under, gB, wB]; omega) | skip
    all_goals intro hx
    all_goals first | exact absurd hx (by decide) | skip
    (repeat' (first | exact trivial | exact fun _ => rfl | exact rfl | refine And.intro ?_ ?_))
    refine t15.use [] ?_ trivial rfl
    (repeat' (first | exact trivial | exact fun _ => rfl | exact rfl | refine And.intro ?_ ?_))
    all_goals first | exact True.intro | omega | exact u1 (lt64 (by omega)) | exact u0 (lt64 (by omega)) | (show under _ _; simp [under, gB, wB]; done) | (show under _ _; simp [under, gB, wB]; omega) | skip
    exact ent_tau [0, 1] ⟨by (repeat' (first | exact trivial | exact rfl | exact fun _ _ => rfl | exact fun _ _ _ _ => rfl | exact Or.inl rfl | exact Or.inr rfl | refine And.intro ?_ ?_)), by (repeat' (first | exact trivial | exact rfl | exact congrArg (SV.int .i64) (Int.natCast_succ _).symm | exact congrArg (SV.int .u64) (Int.natCast_succ _).symm | refine And.intro ?_ ?_)), rfl⟩
  | false =>
    all_goals (repeat' (first | exact trivial | exact fun _ => rfl | exact rfl | refine And.intro ?_ ?_))
    all_goals first | exact True.intro | omega | exact u1 (lt64 (by omega)) | exact u0 (lt64 (by omega)) | (show under _ _; simp [under, gB, wB]; done) | (show under _ _; simp [under, gB, wB]; omega) | skip
    all_goals intro hx
    all_goals first | exact absurd hx (by decide) | skip
    (repeat' (first | exact trivial | exact fun _ => rfl | exact rfl | refine And.intro ?_ ?_))
    refine c37.use [0] ?_ (by (repeat' (first | exact trivial | exact rfl | exact fun _ _ => rfl | exact fun _ _ _ _ => rfl | exact Or.inl rfl | exact Or.inr rfl | refine And.intro ?_ ?_))) rfl
    cases b with
    | false =>
      have hv : ¬ h.Valid := fun q => by rw [vb_yes q] at hb; cases hb
      have c20 := t20n h hv
      have c22 := t22 h (-1)
      have e22 : HD.bus h (-1) = (0, 0, 1) := by
        unfold HD.bus
        rw [if_neg hv]
      rw [e22] at c22
      all_goals (repeat' (first | exact trivial | exact fun _ => rfl | exact rfl | refine And.intro ?_ ?_))
      all_goals first | exact True.intro | omega | exact u1 (lt64 (by omega)) | exact u0 (lt64 (by omega)) | (show under _ _; simp [under, gB, wB]; done) | (show under _ _; simp [under, gB, wB]; omega) | skip
      all_goals intro hx
      all_goals first | exact absurd hx (by decide) | skip
      (repeat' (first | exact trivial | exact fun _ => rfl | exact rfl | refine And.intro ?_ ?_))
      refine c20.use [0] ?_ (by (repeat' (first | exact trivial | exact rfl | exact fun _ _ => rfl | exact fun _ _ _ _ => rfl | exact Or.inl rfl | exact Or.inr rfl | refine And.intro ?_ ?_))) rfl
      (repeat' (first | exact trivial | exact fun _ => rfl | exact rfl | refine And.intro ?_ ?_))
      refine c22.use [0] ?_ (by (repeat' (first | exact trivial | exact rfl | exact fun _ _ => rfl | exact fun _ _ _ _ => rfl | exact Or.inl rfl | exact Or.inr rfl | refine And.intro ?_ ?_))) rfl
      all_goals (repeat' (first | exact trivial | exact fun _ => rfl | exact rfl | refine And.intro ?_ ?_))
      all_goals first | exact True.intro | omega | exact u1 (lt64 (by omega)) | exact u0 (lt64 (by omega)) | (show under _ _; simp [under, gB, wB]; done) | (show under _ _; simp [under, gB, wB]; omega) | skip
      all_goals intro g1
      all_goals first | (exfalso; revert g1; simp [gB, wB]; done) | skip
      refine t15.use [] ?_ trivial rfl
      (repeat' (first | exact trivial | exact fun _ => rfl | exact rfl | refine And.intro ?_ ?_))
      all_goals first | exact True.intro | omega | exact u1 (lt64 (by omega)) | exact u0 (lt64 (by omega)) | (show under _ _; simp [under, gB, wB]; done) | (show under _ _; simp [under, gB, wB]; omega) | skip
      exact ent_tau [0, 1] ⟨by (repeat' (first | exact trivial | exact rfl | exact fun _ _ => rfl | exact fun _ _ _ _ => rfl | exact Or.inl rfl | exact Or.inr rfl | refine And.intro ?_ ?_)), by (repeat' (first | exact trivial | exact rfl | exact congrArg (SV.int .i64) (Int.natCast_succ _).symm | exact congrArg (SV.int .u64) (Int.natCast_succ _).symm | refine And.intro ?_ ?_)), rfl⟩
    | true =>
      have hv := vb_iff.1 hb
      all_goals (repeat' (first | exact trivial | exact fun _ => rfl | exact rfl | refine And.intro ?_ ?_))
      all_goals first | exact True.intro | omega | exact u1 (lt64 (by omega)) | exact u0 (lt64 (by omega)) | (show under _ _; simp [under, gB, wB]; done) | (show under _ _; simp [under, gB, wB]; omega) | skip
      all_goals intro hx
      all_goals first | exact absurd hx (by decide) | skip
      (repeat' (first | exact trivial | exact fun _ => rfl | exact rfl | refine And.intro ?_ ?_))
      refine CallP.frameH (t34 h hv y hy hyn) [0, 1] (by (repeat' (first | exact trivial | exact rfl | exact fun _ _ => rfl | exact fun _ _ _ _ => rfl | exact Or.inl rfl | exact Or.inr rfl | refine And.intro ?_ ?_))) rfl ?_
      rintro ce h' (⟨h0, rfl, rfl⟩ | ⟨k, cap, h0, hc1, hc2, rfl, rfl⟩)
      · refine ⟨rfl, ?_⟩
        (repeat' (first | exact trivial | exact fun _ => rfl | exact rfl | refine And.intro ?_ ?_))
        all_goals first | (first | omega | exact u0 (by omega) | exact u1 (by omega) | exact u1 ⟨by omega, by omega⟩ | exact un (by omega) | exact fun hh => hh | exact fun hh => absurd hh (by decide) | exact fun hh => congrArg not hh | exact fun hh => Bool.noConfusion (show true = false from hh) | exact fun hh => Bool.noConfusion (show false = true from hh)) | exact u0 (by omega) | exact u0 (by decide) | skip
        refine CodeP.pre ?_ (seg7u h hv y (mkD y 0 false 0) (pok_mk hy h0.symm false 0) (m.tmod 221) hmm (seg7y0 h hv y h0))
        refine Ent.trans (t := ⟨mkT [] [(3, .ptr 2 0), (6, .bool false), (11, .osl false 4 1 0 0), (12, .snil), (13, .snil), (14, .int .i64 (m.tmod 221)), (15, .ptr 3 0)] 0 (List.replicate 320 none), (H7z h y ++ [some (.cells [.int .i64 0, .int .i64 0])]) ++ [some (.roa 1 0 (PD.F (mkD y 0 false 0)))], []⟩) (entPlan0 (T := mkT [] [(3, .ptr 2 0), (6, .bool false), (11, .snil), (12, .snil), (13, .snil), (14, .int .i64 (m.tmod 221)), (15, .ptr 3 0)] 0 (List.replicate 320 none)) (H := H7z h y ++ [some (.cells [.int .i64 0, .int .i64 0])]) ?_ ?_ (i := 0) rfl) ?_
        · exact ent_tau [0, 1, 2, 3] ⟨by (repeat' (first | exact trivial | exact rfl | exact fun _ _ => rfl | exact fun _ _ _ _ => rfl | exact Or.inl rfl | exact Or.inr rfl | refine And.intro ?_ ?_)), by (repeat' (first | exact trivial | exact rfl | exact congrArg (SV.int .i64) (Int.natCast_succ _).symm | exact congrArg (SV.int .u64) (Int.natCast_succ _).symm | refine And.intro ?_ ?_)), rfl⟩
        · (repeat' (first | exact trivial | exact rfl | exact fun η => rfl | exact fun η => by simp [den] | refine And.intro ?_ ?_))
        · exact ent_tau [0, 1, 2, 4, 3] ⟨by (repeat' (first | exact trivial | exact rfl | exact fun _ _ => rfl | exact fun _ _ _ _ => rfl | exact Or.inl rfl | exact Or.inr rfl | refine And.intro ?_ ?_)), by (repeat' (first | exact trivial | exact rfl | exact congrArg (SV.int .i64) (Int.natCast_succ _).symm | exact congrArg (SV.int .u64) (Int.natCast_succ _).symm | refine And.intro ?_ ?_)), rfl⟩
      · refine ⟨rfl, ?_⟩
        (repeat' (first | exact trivial | exact fun _ => rfl | exact rfl | refine And.intro ?_ ?_))
        all_goals first | (first | omega | exact u0 (by omega) | exact u1 (by omega) | exact u1 ⟨by omega, by omega⟩ | exact un (by omega) | exact fun hh => hh | exact fun hh => absurd hh (by decide) | exact fun hh => congrArg not hh | exact fun hh => Bool.noConfusion (show true = false from hh) | exact fun hh => Bool.noConfusion (show false = true from hh)) | exact u0 (by omega) | exact u0 (by decide) | skip
        refine CodeP.pre ?_ (seg7u h hv y (mkD y (k + 1) true cap) (pok_mk hy h0.symm true cap) (m.tmod 221) hmm (seg7y1 h hv y k cap h0 ⟨hc1, hc2⟩))
        refine entTmR (T := mkT [] [(3, .ptr 2 0), (6, .bool false), (11, .slice 3 1 0 (k + 1) cap), (14, .int .i64 (m.tmod 221)), (15, .ptr 4 0), (12, .snil), (13, .snil)] 0 (List.replicate 320 none)) ?_ ?_
        · exact ent_tau [0, 1, 2, 3, 4] ⟨by (repeat' (first | exact trivial | exact rfl | exact fun _ _ => rfl | exact fun _ _ _ _ => rfl | exact Or.inl rfl | exact Or.inr rfl | refine And.intro ?_ ?_)), by (repeat' (first | exact trivial | exact rfl | exact congrArg (SV.int .i64) (Int.natCast_succ _).symm | exact congrArg (SV.int .u64) (Int.natCast_succ _).symm | refine And.intro ?_ ?_)), rfl⟩
        · (repeat' (first | exact trivial | exact rfl | exact fun η => rfl | exact fun η => by simp [den, mkD] | refine And.intro ?_ ?_))
end Go.Proofs.Ytgofhjihkinknaa
