/-
  Parts: B6, B7, B8, B9, B10, B11, B12, B13.
-/
import Derived.Test.YtioajogaghgipaaP18
import Derived.Test.YtioajogaghgipaaP13
set_option linter.unusedVariables false
/-
 Truths of tickets, one by one: from some tickets on; all of them.
-/
namespace Go.Proofs.Ytioajogaghgipaa
open Go Go.Sy Tic
set_option linter.unusedSimpArgs false
set_option maxRecDepth 100000
set_option maxHeartbeats 4000000
attribute [local irreducible] CallP CodeP Ent YieldP
set_option maxHeartbeats 16000000

theorem run_one {γ : Type} (step : γ → Tru → γ × Bool) (x : Tru) (g : γ) : run step [x] g = step g x := by
 rw [run]
 obtain ⟨R, hR⟩ : ∃ R, step g x = R := ⟨_, rfl⟩
 rw [hR]
 obtain ⟨g', b⟩ := R
 cases b <;> rfl
theorem fitB_fits {t : TK} {d : Nat} {x : Tru} {p : Int × Int} (hd : d < t.n) : fitB t d x p d = t.fitsP t.ordL d x p := by
 unfold fitB TK.fitsP
 rw [Bool.eq_iff_iff, List.all_eq_true, List.all_eq_true]
 have e : ∀ j, j ∈ List.range d → t.ordL.getD j 0 = ord t j := fun j hj => TK.ordL_get t (by have := List.mem_range.1 hj; omega)
 have e2 : t.ordL.getD d 0 = ord t d := TK.ordL_get t hd
 constructor
 ·intro H j hj
  rw [e j hj, e2]
  exact H j hj
 ·intro H j hj
  have := H j hj
  rw [e j hj, e2] at this
  exact this
theorem inv_bnd {t : TK} (hv : t.Valid) {d : Nat} {x : Tru} (h : TK.Inv t t.ordL d x) (hd : d ≤ t.n) : ∀ i, 0 ≤ (x i).1 ∧ (x i).1 ≤ 240 ∧ 0 ≤ (x i).2 ∧ (x i).2 ≤ 240 := fun i => by
 by_cases c : ∃ j, j < d ∧ t.ordL.getD j 0 = i
 ·obtain ⟨j, hj, rfl⟩ := c
  have o := h.one j hj
  have v := hv.2.2 _ ((TK.ordL_ok t).at_lt (show j < t.n by omega))
  unfold TK.okP at o
  unfold TK.okT spanOk at v
  omega
 ·rw [h.none i fun j hj e => c ⟨j, hj, e⟩]
  exact ⟨by decide, by decide, by decide, by decide⟩
theorem t106o (t : TK) (bo : Bool) (co : Nat) (k : Nat) (hk : k < t.n) : CallP Try.prog 106 [.ptr 1 0, .int .i64 k] [some (.roa 5 t.n (TF t)), some (.roc [.int .i64 t.huts, .osl t.b 0 5 t.n t.cap, .osl bo 2 1 t.n co]), some (.roa 1 t.n (rowO (ord t)))]
  (Ret (.fn (.func 113) [] [.ptr 3 0]) [some (.roa 5 t.n (TF t)), some (.roc [.int .i64 t.huts, .osl t.b 0 5 t.n t.cap, .osl bo 2 1 t.n co]), some (.roa 1 t.n (rowO (ord t))), some (.cells (TF t k))]) := by
 have ek := z1 k
 refine callR (E := E) E_ok Try.func106 rfl ?_
 (repeat' first|exact ap|refine aN ?_ ?_)
 all_goals first | exact om | (rw [ek]; omega) | skip
 refine ent_tau [0, 1, 2, 3] ⟨?_, by (repeat' first|exact tm|refine aN ?_ ?_), rfl⟩
 rw [ek]
 (repeat' first|exact fp|refine aN ?_ ?_)
theorem t104 (t : TK) (hv : t.Valid) (bo : Bool) (co : Nat) (hbo : OrdV t bo co) {γ : Type} (step : γ → Tru → γ × Bool) (C : γ → Bool → OB)
  (hy : ∀ g x, x ∈ t.trs → YieldP Try.prog 4 [.agg (trV x)] (HI t bo co (C g true)) (Ret (.bool (step g x).2) (HI t bo co (C (step g x).1 (step g x).2)))) :
  ∀ (r d : Nat) (x : Tru) (g : γ), d + r = t.n → TK.Inv t t.ordL d x → CallP Try.prog 104 [.agg (trV x), .int .i64 d, .ptr 3 0, .ptr 13 0, .ptr 14 0] (HN t bo co (C g true))
   (Ret (.bool (run step (t.goP t.ordL r d x) g).2) (HN t bo co (C (run step (t.goP t.ordL r d x) g).1 (run step (t.goP t.ordL r d x) g).2))) := by
 have hn5 := hv.2.1
 intro r
 induction r with
 | zero =>
  intro d x g hd hx
  obtain rfl : d = t.n := by omega
  have hm : x ∈ t.trs := TK.mem_trs.2 ((TK.inv_iff (TK.ordL_ok t)).1 hx)
  have hyg := hy g x hm
  rw [TK.goP, run_one]
  obtain ⟨R, hR⟩ : ∃ R, step g x = R := ⟨_, rfl⟩
  rw [hR] at hyg ⊢
  obtain ⟨g', b⟩ := R
  simp only at hyg ⊢
  refine callR (E := E) E_ok Try.func104 rfl ?_
  (repeat' first|exact ap|refine aN ?_ ?_)
  refine drawP E_ok [16] pl104_1 (by kernel_rfl) ?_
  (repeat' first|exact ap|refine aN ?_ ?_)
  ·intro hc
   (repeat' first|exact ap|refine aN ?_ ?_)
   refine hyg.use [0, 1, 2, 3, 4, 5, 6, 7, 8, 9, 10, 11, 12] ?_ (by (repeat' first|exact fp|refine aN ?_ ?_)) rfl
   (repeat' first|exact ap|refine aN ?_ ?_)
   exact ent_tau [0, 1, 2, 3, 4, 5, 6, 7, 8, 9, 10, 11, 12, 13, 14] ⟨by (repeat' first|exact fp|refine aN ?_ ?_), by (repeat' first|exact tm|refine aN ?_ ?_), rfl⟩
  ·intro hc
   exact absurd rfl (of_decide_eq_false hc)
 | succ r ih =>
  intro d x g hd hx
  have hdn : d < t.n := by omega
  have e2 : t.ordL.getD d 0 = ord t d := TK.ordL_get t hdn
  have hkn := ord_lt t hdn
  have bnd := inv_bnd hv hx (by omega)
  have hcd : t.n ≤ co := by
   rcases hbo with ⟨h, _⟩ | ⟨_, _, h⟩
   ·omega
   ·exact h
  have ed := z1 d
  obtain ⟨F, hF⟩ : ∃ F : Int × Int → List Tru, F = fun p => match t.fitsP t.ordL d x p with
   | true => t.goP t.ordL r (d + 1) (TK.updT x (ord t d) p)
   | false => [] := ⟨_, rfl⟩
  have hgo : t.goP t.ordL (r + 1) d x = (t.prsP (ord t d)).flatMap F := by
   rw [TK.goP, e2, hF]
   exact congrArg (fun f => List.flatMap f (t.prsP (ord t d))) (funext fun p => by cases t.fitsP t.ordL d x p <;> rfl)
  rw [hgo]
  have c113 := t113 t hv bo co step C x d (ord t d) hkn F false (fun g p hp => y104 t hv bo co hbo step C x d hdn (fun i _ => (bnd i).2.2) false g p hp (F p) (fun hf => by
    rw [fitB_fits hdn] at hf
    have e : F p = t.goP t.ordL r (d + 1) (TK.updT x (ord t d) p) := by rw [hF]; simp only [hf]
    rw [e]
    refine ih (d + 1) _ g (by omega) ?_
    have := hx.step (TK.ordL_ok t) hdn (p := p) (by rw [e2]; exact hp) hf
    rw [e2] at this
    exact this) (fun hf => by
    rw [fitB_fits hdn] at hf
    rw [hF]
    simp only [hf])) g
  obtain ⟨R, hR⟩ : ∃ R, run step ((t.prsP (ord t d)).flatMap F) g = R := ⟨_, rfl⟩
  rw [hR] at c113 ⊢
  obtain ⟨gE, bE⟩ := R
  simp only at c113 ⊢
  have c106 := t106o t bo co (ord t d) hkn
  have ek : ord t d = ord t (0 + ((d : Nat) : Int).toNat) := by rw [ed]
  rw [ek] at c106 c113 hkn
  refine callM (E := E) E_ok Try.func104 rfl ?_
  (repeat' first|exact ap|refine aN ?_ ?_)
  refine drawP E_ok [16] pl104_1 (by kernel_rfl) ?_
  (repeat' first|exact ap|refine aN ?_ ?_)
  ·intro hc
   exact absurd (of_decide_eq_true hc) (by omega)
  ·intro hc
   (repeat' first|exact ap|refine aN ?_ ?_)
   refine drawP E_ok [16] pl104_3 (by kernel_rfl) ?_
   (repeat' first|exact ap|refine aN ?_ ?_)
   all_goals first | exact om | skip
   refine c106.use [0, 1, 2] ?_ (by (repeat' first|exact fp|refine aN ?_ ?_)) rfl
   (repeat' first|exact ap|refine aN ?_ ?_)
   refine rangeP E_ok rfl rfl ?_
   cases bE
   ·refine c113.use [0, 1, 2, 3, 4, 5, 6, 7, 8, 9, 10, 11, 12, 13, 14, 15, 16, 17, 18, 19, 20, 22] ?_ (by (repeat' first|exact fp|refine aN ?_ ?_)) rfl
    refine ⟨by decide, ?_⟩
    refine codeP_ret ?_
    refine And.intro trivial ?_
    refine And.intro (fun o h => h) ?_
    refine And.intro ?_ ⟨_, _, ⟨rfl, rfl⟩, ?_⟩
    all_goals first | exact ent_tau [0, 1, 2, 3, 4, 5, 6, 7, 8, 9, 10, 11, 12, 13, 14] ⟨by (repeat' first|exact fp|refine aN ?_ ?_), by (repeat' first|exact tm|refine aN ?_ ?_), rfl⟩ | simp [AllP, under, gB, wB, inR_iff, IntKind.bits]
   ·refine c113.use [0, 1, 2, 3, 4, 5, 6, 7, 8, 9, 10, 11, 12, 13, 14, 15, 16, 17, 18, 19, 20, 22] ?_ (by (repeat' first|exact fp|refine aN ?_ ?_)) rfl
    refine ⟨by decide, ?_⟩
    (repeat' first|exact ap|refine aN ?_ ?_)
    ·exact fun o h => h
    ·refine ⟨_, _, ⟨rfl, rfl⟩, ?_⟩
     exact ent_tau [0, 1, 2, 3, 4, 5, 6, 7, 8, 9, 10, 11, 12, 13, 14] ⟨by (repeat' first|exact fp|refine aN ?_ ?_), by (repeat' first|exact tm|refine aN ?_ ?_), rfl⟩
end Go.Proofs.Ytioajogaghgipaa
/-
 All truths of tickets are handed over.
-/
namespace Go.Proofs.Ytioajogaghgipaa
open Go Go.Sy Tic
set_option linter.unusedSimpArgs false
set_option maxRecDepth 100000
set_option maxHeartbeats 4000000
attribute [local irreducible] CallP CodeP Ent YieldP

theorem inv0 (t : TK) : t.Inv t.ordL 0 fun _ => (0, 0) := ⟨fun j hj => absurd hj (Nat.not_lt_zero j), fun i j _ hj => absurd hj (Nat.not_lt_zero j), fun _ _ => rfl⟩
theorem t103 (t : TK) (hv : t.Valid) (bo : Bool) (co : Nat) (hbo : OrdV t bo co) {γ : Type} (step : γ → Tru → γ × Bool) (C : γ → Bool → OB)
  (hy : ∀ g x, x ∈ t.trs → YieldP Try.prog 4 [.agg (trV x)] (HI t bo co (C g true)) (Ret (.bool (step g x).2) (HI t bo co (C (step g x).1 (step g x).2)))) (g : γ) :
  CallP Try.prog 103 [.yld 4, .ptr 3 0] (HI t bo co (C g true)) (Ret (.tup []) (HI t bo co (C (run step (t.trP t.ordL) g).1 (run step (t.trP t.ordL) g).2))) := by
 have c := t104 t hv bo co hbo step C hy t.n 0 (fun _ => (0, 0)) g (by omega) (inv0 t)
 refine callR (E := E) E_ok Try.func103 rfl ?_
 (repeat' first|exact ap|refine aN ?_ ?_)
 refine c.use [0, 1, 2, 3, 4, 5, 6, 7, 8, 9, 10, 11, 12, 13, 14] ?_ (by (repeat' first|exact fp|refine aN ?_ ?_)) rfl
 (repeat' first|exact ap|refine aN ?_ ?_)
 exact ent_tau [0, 1, 2, 3, 4, 5, 6, 7, 8, 9, 10, 11, 12] ⟨by (repeat' first|exact fp|refine aN ?_ ?_), by (repeat' first|exact tm|refine aN ?_ ?_), rfl⟩
end Go.Proofs.Ytioajogaghgipaa
/-
 Questions to a truth: is a ticket passed over, is it anybody's turn, is a hut free.
-/
namespace Go.Proofs.Ytioajogaghgipaa
open Go Go.Sy Tic
set_option linter.unusedSimpArgs false
set_option maxRecDepth 100000
set_option maxHeartbeats 4000000
attribute [local irreducible] CallP CodeP Ent YieldP

def HQ (t : TK) (bo : Bool) (co : Nat) : SHeap := [some (.roa 5 t.n (TF t)), some (.roc [.int .i64 t.huts, .osl t.b 0 5 t.n t.cap, .osl bo 2 1 t.n co]), some (.roa 1 t.n (rowO (ord t)))]
theorem t136 (t : TK) (bo : Bool) (co : Nat) (x : Tru) (a b : Nat) (ha : a < 5) (hb : b < 5) : CallP Try.prog 136 [.agg [.int .i64 a, .int .i64 b], .ptr 1 0, .agg (trV x)] (HQ t bo co) (Ret (.bool (over x a b)) (HQ t bo co)) := by
 have c := t69 x b a hb ha
 have e1 := tr_b x hb (0 + 1 + 0) rfl
 have e2 := tr_b x ha (0 + 1 + 0) rfl
 obtain ⟨B, hB⟩ : ∃ B, before x b a = B := ⟨_, rfl⟩
 rw [hB] at c
 have hov : over x a b = (B && decide ((x a).2 < (x b).2)) := by unfold over; rw [hB]
 rw [hov]
 refine callR (E := E) E_ok Try.func136 rfl ?_
 (repeat' first|exact ap|refine aN ?_ ?_)
 refine drawP E_ok [3, 4] pl136_2 (by kernel_rfl) ?_
 (repeat' first|exact ap|refine aN ?_ ?_)
 all_goals first | exact om | skip
 refine c.use [] ?_ trivial rfl
 have la : ((a : Nat) : Int).toNat * 2 + (0 + 1 + 1) ≤ 10 := by omega
 have lb : ((b : Nat) : Int).toNat * 2 + (0 + 1 + 1) ≤ 10 := by omega
 have ha5 : ((a : Nat) : Int) < 5 := by omega
 have hb5 : ((b : Nat) : Int) < 5 := by omega
 cases B
 ·(repeat' first|exact ap|refine aN ?_ ?_)
  all_goals first | exact g1 | exact g1f | exact g2 | exact g2f | exact gn | exact u1 la | exact u1 lb | exact u1 (Int.natCast_nonneg _) | exact u1 ha5 | exact u1 hb5 | skip
  exact ent_tau [0, 1, 2] ⟨by (repeat' first|exact fp|refine aN ?_ ?_), by (repeat' first|exact tm|refine aN ?_ ?_), rfl⟩
 ·(repeat' first|exact ap|refine aN ?_ ?_)
  all_goals first | exact g1 | exact g1f | exact g2 | exact g2f | exact gn | exact u1 la | exact u1 lb | exact u1 (Int.natCast_nonneg _) | exact u1 ha5 | exact u1 hb5 | skip
  refine ent_tau [0, 1, 2] ⟨by (repeat' first|exact fp|refine aN ?_ ?_), ⟨rfl, ?_, trivial⟩, rfl⟩
  refine congrArg SV.bool ?_
  show decide ((trI x).getD (((a : Nat) : Int).toNat * 2 + (0 + 1 + 0)) 0 < (trI x).getD (((b : Nat) : Int).toNat * 2 + (0 + 1 + 0)) 0) = decide ((x a).2 < (x b).2)
  rw [e1, e2]
theorem t135 (t : TK) (hv : t.Valid) (bo : Bool) (co : Nat) (x : Tru) (a : Nat) (b : Int) (ha : a < 5) : CallP Try.prog 135 [.agg [.int .i64 a, .int .i64 b], .ptr 1 0, .agg (trV x)] (HQ t bo co) (Ret (.bool (overs t.n x a)) (HQ t bo co)) := by
 have hn5 := hv.2.1
 refine callR (E := E) E_ok Try.func135 rfl ?_
 (repeat' first|exact ap|refine aN ?_ ?_)
 refine loopP E_ok [1, 3, 5, 11, 12] (fun g : Nat × Int => [(13, .int .i64 g.1)]) (fun g _ => HQ t bo co ++ [some (.cells [.int .i64 a, .int .i64 g.2]), some (.cells (trV x))]) (fun g => g.1 ≤ t.n ∧ overs g.1 x a = false) (fun g => t.n - g.1) (0, b) ⟨Nat.zero_le _, rfl⟩ ?_ ?_
 ·exact ent_tau [0, 1, 2, 3, 4] ⟨by (repeat' first|exact fp|refine aN ?_ ?_), by (repeat' first|exact tm|refine aN ?_ ?_), rfl⟩
 rintro ⟨j, q⟩ ⟨hj, ho⟩
 simp only at hj ho
 refine And.intro ?_ (And.intro (fun hc => ?_) (fun hc => ?_))
 ·(repeat' first|exact ap|refine aN ?_ ?_)
 ·have hjn : j < t.n := by
   have := of_decide_eq_true hc
   simp only at this
   omega
  have c := t136 t bo co x a j ha (by omega)
  have hs : overs (j + 1) x a = (overs j x a || over x a j) := rfl
  rw [ho, Bool.false_or] at hs
  obtain ⟨B, hB⟩ : ∃ B, over x a j = B := ⟨_, rfl⟩
  rw [hB] at c hs
  (repeat' first|exact ap|refine aN ?_ ?_)
  refine c.use [0, 1, 2] ?_ (by (repeat' first|exact fp|refine aN ?_ ?_)) rfl
  cases B
  ·all_goals (repeat' first|exact ap|refine aN ?_ ?_)
   all_goals first | exact gd | skip
   all_goals intro h1
   all_goals first | exact absurd h1 (by decide) | (cases h1; done) | skip
   (repeat' first|exact ap|refine aN ?_ ?_)
   all_goals first | exact om | skip
   refine ⟨(j + 1, (j : Int)), ⟨by simp only; omega, hs⟩, by simp only; omega, ?_⟩
   exact ent_tau [0, 1, 2, 3, 4] ⟨by (repeat' first|exact fp|refine aN ?_ ?_), by (repeat' first|exact tm|refine aN ?_ ?_), rfl⟩
  ·have hall : overs t.n x a = true := anyB_iff.2 ⟨j, hjn, hB⟩
   rw [hall]
   all_goals (repeat' first|exact ap|refine aN ?_ ?_)
   all_goals first | exact gd | skip
   all_goals intro h1
   all_goals first | exact absurd h1 (by decide) | (cases h1; done) | skip
   (repeat' first|exact ap|refine aN ?_ ?_)
   exact ent_tau [0, 1, 2] ⟨by (repeat' first|exact fp|refine aN ?_ ?_), by (repeat' first|exact tm|refine aN ?_ ?_), rfl⟩
 ·have hjn : j = t.n := by
   have := of_decide_eq_false hc
   simp only at this
   omega
  subst hjn
  rw [ho]
  (repeat' first|exact ap|refine aN ?_ ?_)
  exact ent_tau [0, 1, 2] ⟨by (repeat' first|exact fp|refine aN ?_ ?_), by (repeat' first|exact tm|refine aN ?_ ?_), rfl⟩
theorem t137 (t : TK) (hv : t.Valid) (bo : Bool) (co : Nat) (x : Tru) (a : Nat) (b : Int) (ha : a < 5) : CallP Try.prog 137 [.agg [.int .i64 a, .int .i64 b], .ptr 1 0, .agg (trV x)] (HQ t bo co) (Ret (.bool (inTurn t.n x a)) (HQ t bo co)) := by
 have c := t135 t hv bo co x a b ha
 refine callR (E := E) E_ok Try.func137 rfl ?_
 (repeat' first|exact ap|refine aN ?_ ?_)
 refine c.use [0, 1, 2] ?_ (by (repeat' first|exact fp|refine aN ?_ ?_)) rfl
 (repeat' first|exact ap|refine aN ?_ ?_)
 exact ent_tau [0, 1, 2] ⟨by (repeat' first|exact fp|refine aN ?_ ?_), by (repeat' first|exact tm|refine aN ?_ ?_), rfl⟩
end Go.Proofs.Ytioajogaghgipaa
/-
 Questions to a truth: is a hut free.
-/
namespace Go.Proofs.Ytioajogaghgipaa
open Go Go.Sy Tic
set_option linter.unusedSimpArgs false
set_option maxRecDepth 100000
set_option maxHeartbeats 4000000
attribute [local irreducible] CallP CodeP Ent YieldP

theorem t138 (t : TK) (hv : t.Valid) (bo : Bool) (co : Nat) (x : Tru) (hx : ∀ i, i < t.n → 0 ≤ (x i).2 ∧ (x i).2 ≤ 240) (h m : Int) (hm : 0 ≤ m ∧ m ≤ 240) : CallP Try.prog 138 [.agg [.int .i64 h, .int .i64 m], .ptr 1 0, .agg (trV x)] (HQ t bo co) (Ret (.bool (!t.used x h m)) (HQ t bo co)) := by
 have hn5 := hv.2.1
 refine callR (E := E) E_ok Try.func138 rfl ?_
 (repeat' first|exact ap|refine aN ?_ ?_)
 refine loopP E_ok [1, 3, 5, 13, 14] (fun j : Nat => [(15, .int .i64 j)]) (fun _ H => H) (fun j => j ≤ t.n ∧ anyB (fun i => decide (t.hut i = h) && inI (m - (x i).2) 0 29) j = false) (fun j => t.n - j) 0 ⟨Nat.zero_le _, rfl⟩ ?_ ?_
 ·exact ent_tau [0, 1, 2, 3, 4] ⟨by (repeat' first|exact fp|refine aN ?_ ?_), by (repeat' first|exact tm|refine aN ?_ ?_), rfl⟩
 rintro j ⟨hj, ho⟩
 refine And.intro ?_ (And.intro (fun hc => ?_) (fun hc => ?_))
 ·(repeat' first|exact ap|refine aN ?_ ?_)
 ·have hjn : j < t.n := by
   have := of_decide_eq_true hc
   omega
  have ej := z1 j
  have hb := tr_b x (a := j) (by omega) (0 + 1 + 0) rfl
  have xb := hx j hjn
  have hs : anyB (fun i => decide (t.hut i = h) && inI (m - (x i).2) 0 29) (j + 1) = (anyB (fun i => decide (t.hut i = h) && inI (m - (x i).2) 0 29) j || (decide (t.hut j = h) && inI (m - (x j).2) 0 29)) := rfl
  rw [ho, Bool.false_or] at hs
  have c := t83 ((trI x).getD (((j : Nat) : Int).toNat * 2 + 0) 0) ((trI x).getD (((j : Nat) : Int).toNat * 2 + (0 + 1)) 0) m (by
   rw [tr_b x (a := j) (by omega) (0 + 1) rfl]
   exact (inR_iff _).2 ⟨by omega, by omega⟩)
  (repeat' first|exact ap|refine aN ?_ ?_)
  all_goals first | exact om | skip
  refine drawP E_ok [3, 4, 5] pl138_4 (by kernel_rfl) ?_
  (repeat' first|exact ap|refine aN ?_ ?_)
  all_goals first | exact om | skip
  ·exact u1 (show ((j : Nat) : Int).toNat * 2 + (0 + 2) ≤ 10 by omega)
  ·intro hg
   have hg2 : decide (t.hut (0 + ((j : Nat) : Int).toNat) = h) = true := by simpa [gB, wB] using hg
   have he : t.hut j = h := by rw [ej] at hg2; exact of_decide_eq_true hg2
   rw [decide_eq_true he, Bool.true_and] at hs
   obtain ⟨B, hB⟩ : ∃ B, inI (m - (x j).2) 0 29 = B := ⟨_, rfl⟩
   have er : inI (m - (trI x).getD (((j : Nat) : Int).toNat * 2 + (0 + 1)) 0) 0 29 = B := by
    rw [tr_b x (a := j) (by omega) (0 + 1) rfl]
    exact hB
   rw [er] at c
   rw [hB] at hs
   refine c.use [] ?_ trivial rfl
   cases B
   ·(repeat' first|exact ap|refine aN ?_ ?_)
    all_goals first | exact g1 | exact g1f | exact g2 | exact g2f | exact gn | exact gi | ((with_reducible show under _ _); first | exact fun hh => hh | exact u1 (lt64 (by omega)) | exact u0 (lt64 (by omega)) | exact u0 (by omega) | exact u1 (by omega)) | skip
    all_goals first | exact fun _ => hg | skip
    all_goals (repeat' first|exact ap|refine aN ?_ ?_)
    all_goals first | exact gd | skip
    all_goals intro hx
    all_goals first | (exfalso; revert hx; simp [gB, wB, ej, he]; done) | skip
    (repeat' first|exact ap|refine aN ?_ ?_)
    all_goals first | exact om | skip
    refine ⟨j + 1, ⟨by omega, hs⟩, by omega, ?_⟩
    exact ent_tau [0, 1, 2, 3, 4] ⟨by (repeat' first|exact fp|refine aN ?_ ?_), by (repeat' first|exact tm|refine aN ?_ ?_), rfl⟩
   ·have hu : t.used x h m = true := anyB_iff.2 ⟨j, hjn, by rw [decide_eq_true he, hB]; rfl⟩
    rw [hu]
    (repeat' first|exact ap|refine aN ?_ ?_)
    all_goals first | exact g1 | exact g1f | exact g2 | exact g2f | exact gn | exact gi | ((with_reducible show under _ _); first | exact fun hh => hh | exact u1 (lt64 (by omega)) | exact u0 (lt64 (by omega)) | exact u0 (by omega) | exact u1 (by omega)) | skip
    all_goals first | exact fun _ => hg | skip
    all_goals (repeat' first|exact ap|refine aN ?_ ?_)
    all_goals first | exact gd | skip
    all_goals intro hx
    all_goals first | (exfalso; revert hx; simp [gB, wB, ej, he]; done) | skip
    (repeat' first|exact ap|refine aN ?_ ?_)
    all_goals first | exact om | skip
    exact ent_tau [0, 1, 2] ⟨by (repeat' first|exact fp|refine aN ?_ ?_), by (repeat' first|exact tm|refine aN ?_ ?_), rfl⟩
  ·intro hg
   have hg2 : decide (t.hut (0 + ((j : Nat) : Int).toNat) = h) = false := by simpa [gB, wB] using hg
   have he : decide (t.hut j = h) = false := by rw [ej] at hg2; exact hg2
   rw [he, Bool.false_and] at hs
   (repeat' first|exact ap|refine aN ?_ ?_)
   all_goals first | exact g1 | exact g1f | exact g2 | exact g2f | exact gn | exact gi | ((with_reducible show under _ _); first | exact fun hh => hh | exact u1 (lt64 (by omega)) | exact u0 (lt64 (by omega)) | exact u0 (by omega) | exact u1 (by omega)) | skip
   all_goals first | exact om | skip
   all_goals (repeat' first|exact ap|refine aN ?_ ?_)
   all_goals first | exact gd | skip
   all_goals intro hx
   all_goals first | (exfalso; revert hx; simp [gB, wB, ej, he]; done) | skip
   (repeat' first|exact ap|refine aN ?_ ?_)
   all_goals first | exact om | skip
   refine ⟨j + 1, ⟨by omega, hs⟩, by omega, ?_⟩
   exact ent_tau [0, 1, 2, 3, 4] ⟨by (repeat' first|exact fp|refine aN ?_ ?_), by (repeat' first|exact tm|refine aN ?_ ?_), rfl⟩
 ·have hjn : j = t.n := by
   have := of_decide_eq_false hc
   omega
  subst hjn
  have hu : t.used x h m = false := ho
  rw [hu]
  (repeat' first|exact ap|refine aN ?_ ?_)
  exact ent_tau [0, 1, 2] ⟨by (repeat' first|exact fp|refine aN ?_ ?_), by (repeat' first|exact tm|refine aN ?_ ?_), rfl⟩
end Go.Proofs.Ytioajogaghgipaa
/-
 A question to all truths: one of them.
-/
namespace Go.Proofs.Ytioajogaghgipaa
open Go Go.Sy Tic
set_option linter.unusedSimpArgs false
set_option maxRecDepth 100000
set_option maxHeartbeats 4000000
attribute [local irreducible] CallP CodeP Ent YieldP
set_option maxHeartbeats 16000000

noncomputable def L57 (st : LoopState) (p : Option Code) : SObj := .loopr ([none, none, some (.ptr 5 0), some (.ptr 6 0), some (.ptr 7 0)] ++ List.replicate 33 none) #[9] (asOf Try.f57) (bodyOf Try.f57) st p
noncomputable def P57 (qv : SV) (a b : Bool) (st : LoopState) (p : Option Code) : List (Nat × SObj) := [(4, L57 st p), (5, .cells [.ptr 1 0]), (6, .cells [qv]), (7, .cells [.bool a, .bool b])]
noncomputable def C57 (qv : SV) (g : Bool × Bool) (b : Bool) : OB := packR (P57 qv g.1 g.2 (bif b then .ready else .done) (bif b then none else some .ret))
noncomputable def HU57 (t : TK) (bo : Bool) (co : Nat) (qv : SV) (a b : Bool) (st : LoopState) (p : Option Code) : SHeap :=
 [some (.roa 5 t.n (TF t)), some (.roc [.int .i64 t.huts, .osl t.b 0 5 t.n t.cap, .osl bo 2 1 t.n co]), some (.roa 1 t.n (rowO (ord t))), some (.roc [.ptr 1 0]), some (L57 st p), some (.cells [.ptr 1 0]), some (.cells [qv]), some (.cells [.bool a, .bool b]), some .dead, some .dead, some .dead, some .dead, some .dead]
def step57 (Q : Tru → Bool) (g : Bool × Bool) (x : Tru) : (Bool × Bool) × Bool := ((g.1 || Q x, g.2 || !Q x), !((g.1 || Q x) && (g.2 || !Q x)))
def IsQ (t : TK) (qv : SV) (Q : Tru → Bool) : Prop :=
 (∃ a b : Nat, a < 5 ∧ b < 5 ∧ qv = .iface 92 (.agg [.int .i64 a, .int .i64 b]) ∧ Q = fun x => over x a b) ∨
 (∃ (a : Nat) (b : Int), a < 5 ∧ qv = .iface 94 (.agg [.int .i64 a, .int .i64 b]) ∧ Q = fun x => inTurn t.n x a) ∨
 ∃ h m : Int, (0 ≤ m ∧ m ≤ 240) ∧ qv = .iface 108 (.agg [.int .i64 h, .int .i64 m]) ∧ Q = fun x => !t.used x h m
theorem trs_bnd {t : TK} (hv : t.Valid) {x : Tru} (hx : x ∈ t.trs) : ∀ i, i < t.n → 0 ≤ (x i).2 ∧ (x i).2 ≤ 240 := fun i hi => by
 have h1 := (TK.mem_trs.1 hx).2.1 i hi
 have h2 := (hv.2.2 i hi).2.2
 unfold TK.okP at h1
 unfold spanOk at h2
 omega
theorem up57 (t : TK) (bo : Bool) (co : Nat) (qv : SV) (Q : Tru → Bool) (hq : IsQ t qv Q) (a b : Bool) (x : Tru) : Ent 13 ⟨argT [.agg (trV x)], HI t bo co (C57 qv (a, b) true), []⟩ ⟨argT [.agg (trV x)], HU57 t bo co qv a b .ready none, []⟩ := by
 rcases hq with ⟨u, v, hu, hv2, rfl, rfl⟩ | ⟨u, v, hu, rfl, rfl⟩ | ⟨h, m, hm, rfl, rfl⟩
 ·exact entUnpack (n := 13) (T := argT [.agg (trV x)]) (H := HI t bo co (C57 (.iface 92 (.agg [.int .i64 u, .int .i64 v])) (a, b) true)) (D := []) NS (P57 (.iface 92 (.agg [.int .i64 u, .int .i64 v])) a b .ready none) 4 rfl rfl rfl ⟨trivial, trivial, trivial, trivial, trivial⟩
 ·exact entUnpack (n := 13) (T := argT [.agg (trV x)]) (H := HI t bo co (C57 (.iface 94 (.agg [.int .i64 u, .int .i64 v])) (a, b) true)) (D := []) NS (P57 (.iface 94 (.agg [.int .i64 u, .int .i64 v])) a b .ready none) 4 rfl rfl rfl ⟨trivial, trivial, trivial, trivial, trivial⟩
 ·exact entUnpack (n := 13) (T := argT [.agg (trV x)]) (H := HI t bo co (C57 (.iface 108 (.agg [.int .i64 h, .int .i64 m])) (a, b) true)) (D := []) NS (P57 (.iface 108 (.agg [.int .i64 h, .int .i64 m])) a b .ready none) 4 rfl rfl rfl ⟨trivial, trivial, trivial, trivial, trivial⟩
theorem pk57 (t : TK) (bo : Bool) (co : Nat) (qv : SV) (Q : Tru → Bool) (hq : IsQ t qv Q) (a b r : Bool) (T : Tm) : Ent 13 ⟨T, HU57 t bo co qv a b (bif r then .ready else .done) (bif r then none else some .ret), []⟩ ⟨T, HI t bo co (C57 qv (a, b) r), []⟩ := by
 rcases hq with ⟨u, v, hu, hv2, rfl, rfl⟩ | ⟨u, v, hu, rfl, rfl⟩ | ⟨h, m, hm, rfl, rfl⟩
 ·cases r
  ·exact entPack (n := 13) (T := T) (H := HU57 t bo co (.iface 92 (.agg [.int .i64 u, .int .i64 v])) a b .done (some .ret)) (D := []) NS (P57 (.iface 92 (.agg [.int .i64 u, .int .i64 v])) a b .done (some .ret)) 4 (by (repeat' first|exact fp|refine aN ?_ ?_)) rfl rfl
  ·exact entPack (n := 13) (T := T) (H := HU57 t bo co (.iface 92 (.agg [.int .i64 u, .int .i64 v])) a b .ready none) (D := []) NS (P57 (.iface 92 (.agg [.int .i64 u, .int .i64 v])) a b .ready none) 4 (by (repeat' first|exact fp|refine aN ?_ ?_)) rfl rfl
 ·cases r
  ·exact entPack (n := 13) (T := T) (H := HU57 t bo co (.iface 94 (.agg [.int .i64 u, .int .i64 v])) a b .done (some .ret)) (D := []) NS (P57 (.iface 94 (.agg [.int .i64 u, .int .i64 v])) a b .done (some .ret)) 4 (by (repeat' first|exact fp|refine aN ?_ ?_)) rfl rfl
  ·exact entPack (n := 13) (T := T) (H := HU57 t bo co (.iface 94 (.agg [.int .i64 u, .int .i64 v])) a b .ready none) (D := []) NS (P57 (.iface 94 (.agg [.int .i64 u, .int .i64 v])) a b .ready none) 4 (by (repeat' first|exact fp|refine aN ?_ ?_)) rfl rfl
 ·cases r
  ·exact entPack (n := 13) (T := T) (H := HU57 t bo co (.iface 108 (.agg [.int .i64 h, .int .i64 m])) a b .done (some .ret)) (D := []) NS (P57 (.iface 108 (.agg [.int .i64 h, .int .i64 m])) a b .done (some .ret)) 4 (by (repeat' first|exact fp|refine aN ?_ ?_)) rfl rfl
  ·exact entPack (n := 13) (T := T) (H := HU57 t bo co (.iface 108 (.agg [.int .i64 h, .int .i64 m])) a b .ready none) (D := []) NS (P57 (.iface 108 (.agg [.int .i64 h, .int .i64 m])) a b .ready none) 4 (by (repeat' first|exact fp|refine aN ?_ ?_)) rfl rfl
theorem y57 (t : TK) (hv : t.Valid) (bo : Bool) (co : Nat) (qv : SV) (Q : Tru → Bool) (hq : IsQ t qv Q) (g : Bool × Bool) (x : Tru) (hx : x ∈ t.trs) :
  YieldP Try.prog 4 [.agg (trV x)] (HI t bo co (C57 qv g true)) (Ret (.bool (step57 Q g x).2) (HI t bo co (C57 qv (step57 Q g x).1 (step57 Q g x).2))) := by
 obtain ⟨a, b⟩ := g
 have hb := trs_bnd hv hx
 have hpk := pk57 t bo co qv Q hq
 refine YieldP.pre (up57 t bo co qv Q hq a b x) (show (4 : Nat) < 13 by decide) ?_
 unfold step57
 rcases hq with ⟨u, v, hu, hv2, rfl, rfl⟩ | ⟨u, v, hu, rfl, rfl⟩ | ⟨h, m, hm, rfl, rfl⟩
 ·have c := t136 t bo co x u v hu hv2
  obtain ⟨B, hB⟩ : ∃ B, over x u v = B := ⟨_, rfl⟩
  simp only
  rw [hB] at c ⊢
  refine YieldP.ent (roundP E_ok rfl rfl fun l => ?_)
  (repeat' first|exact ap|refine aN ?_ ?_)
  refine c.use [0, 1, 2] ?_ (by (repeat' first|exact fp|refine aN ?_ ?_)) rfl
  cases a <;> cases b <;> cases B
  all_goals (repeat' first|exact ap|refine aN ?_ ?_)
  all_goals first | exact gd | skip
  all_goals intro h1
  all_goals first | exact absurd h1 (by decide) | (cases h1; done) | skip
  all_goals (repeat' first|exact ap|refine aN ?_ ?_)
  all_goals first | exact g1 | exact g1f | exact g2 | exact g2f | exact gn | exact gi | ((with_reducible show under _ _); first | exact fun hh => hh | exact u1 (lt64 (by omega)) | exact u0 (lt64 (by omega)) | exact u0 (by omega) | exact u1 (by omega)) | skip
  all_goals refine ⟨_, _, ⟨rfl, rfl⟩, ?_⟩
  all_goals refine Ent.trans ?_ (hpk _ _ _ _)
  all_goals exact ent_tau [0, 1, 2, 3, 4, 5, 6, 7, 8, 9, 10, 11, 12] ⟨by (repeat' first|exact fp|refine aN ?_ ?_), by (repeat' first|exact tm|refine aN ?_ ?_), rfl⟩
 ·have c := t137 t hv bo co x u v hu
  obtain ⟨B, hB⟩ : ∃ B, inTurn t.n x u = B := ⟨_, rfl⟩
  simp only
  rw [hB] at c ⊢
  refine YieldP.ent (roundP E_ok rfl rfl fun l => ?_)
  (repeat' first|exact ap|refine aN ?_ ?_)
  refine c.use [0, 1, 2] ?_ (by (repeat' first|exact fp|refine aN ?_ ?_)) rfl
  cases a <;> cases b <;> cases B
  all_goals (repeat' first|exact ap|refine aN ?_ ?_)
  all_goals first | exact gd | skip
  all_goals intro h1
  all_goals first | exact absurd h1 (by decide) | (cases h1; done) | skip
  all_goals (repeat' first|exact ap|refine aN ?_ ?_)
  all_goals first | exact g1 | exact g1f | exact g2 | exact g2f | exact gn | exact gi | ((with_reducible show under _ _); first | exact fun hh => hh | exact u1 (lt64 (by omega)) | exact u0 (lt64 (by omega)) | exact u0 (by omega) | exact u1 (by omega)) | skip
  all_goals refine ⟨_, _, ⟨rfl, rfl⟩, ?_⟩
  all_goals refine Ent.trans ?_ (hpk _ _ _ _)
  all_goals exact ent_tau [0, 1, 2, 3, 4, 5, 6, 7, 8, 9, 10, 11, 12] ⟨by (repeat' first|exact fp|refine aN ?_ ?_), by (repeat' first|exact tm|refine aN ?_ ?_), rfl⟩
 ·have c := t138 t hv bo co x hb h m hm
  obtain ⟨B, hB⟩ : ∃ B, (!t.used x h m) = B := ⟨_, rfl⟩
  simp only
  rw [hB] at c ⊢
  refine YieldP.ent (roundP E_ok rfl rfl fun l => ?_)
  (repeat' first|exact ap|refine aN ?_ ?_)
  refine c.use [0, 1, 2] ?_ (by (repeat' first|exact fp|refine aN ?_ ?_)) rfl
  cases a <;> cases b <;> cases B
  all_goals (repeat' first|exact ap|refine aN ?_ ?_)
  all_goals first | exact gd | skip
  all_goals intro h1
  all_goals first | exact absurd h1 (by decide) | (cases h1; done) | skip
  all_goals (repeat' first|exact ap|refine aN ?_ ?_)
  all_goals first | exact g1 | exact g1f | exact g2 | exact g2f | exact gn | exact gi | ((with_reducible show under _ _); first | exact fun hh => hh | exact u1 (lt64 (by omega)) | exact u0 (lt64 (by omega)) | exact u0 (by omega) | exact u1 (by omega)) | skip
  all_goals refine ⟨_, _, ⟨rfl, rfl⟩, ?_⟩
  all_goals refine Ent.trans ?_ (hpk _ _ _ _)
  all_goals exact ent_tau [0, 1, 2, 3, 4, 5, 6, 7, 8, 9, 10, 11, 12] ⟨by (repeat' first|exact fp|refine aN ?_ ?_), by (repeat' first|exact tm|refine aN ?_ ?_), rfl⟩
end Go.Proofs.Ytioajogaghgipaa
/-
 A question to all truths.
-/
namespace Go.Proofs.Ytioajogaghgipaa
open Go Go.Sy Tic
set_option linter.unusedSimpArgs false
set_option maxRecDepth 100000
set_option maxHeartbeats 4000000
attribute [local irreducible] CallP CodeP Ent YieldP
set_option maxHeartbeats 16000000

theorem run57 (Q : Tru → Bool) : ∀ (l : List Tru) (a b : Bool), (a && b) = false → run (step57 Q) l (a, b) = ((a || l.any Q, b || l.any fun x => !Q x), !((a || l.any Q) && (b || l.any fun x => !Q x)))
 | [], a, b, h => by
  rw [run]
  simp [h]
 | x :: l, a, b, h => by
  rw [run]
  have ih := run57 Q l (a || Q x) (b || !Q x)
  have hs : step57 Q (a, b) x = ((a || Q x, b || !Q x), !((a || Q x) && (b || !Q x))) := rfl
  rw [hs]
  simp only [List.any_cons]
  cases hq : Q x <;> cases a <;> cases b <;> simp_all
noncomputable def L57h (st : LoopState) (p : Option Code) : SObj := .loopr ([none, none, some (.ptr 3 0), some (.ptr 4 0), some (.ptr 5 0)] ++ List.replicate 33 none) #[9] (asOf Try.f57) (bodyOf Try.f57) st p
noncomputable def G57 (t : TK) (bo : Bool) (co : Nat) (qv : SV) (a b : Bool) (st : LoopState) (p : Option Code) : SHeap :=
 HQ t bo co ++ [some (.cells [.ptr 1 0]), some (.cells [qv]), some (.cells [.bool a, .bool b]), some (.roc [.ptr 1 0]), some (L57h st p)]
def S57 : List Nat := [0, 1, 2, 6, 7, 3, 4, 5, 3, 3, 3, 3, 3]
noncomputable def GP57 (t : TK) (bo : Bool) (co : Nat) (ob : OB) : SHeap :=
 HQ t bo co ++ [some .dead, some .dead, some .dead, some (.roc [.ptr 1 0]), some (.pack S57 ob)]
theorem r57 (t : TK) (hv : t.Valid) (bo : Bool) (co : Nat) (hbo : OrdV t bo co) (qv : SV) (Q : Tru → Bool) (hq : IsQ t qv Q) (A B : Bool) (hA : (t.trP t.ordL).any Q = A) (hB : (t.trP t.ordL).any (fun x => !Q x) = B) :
  CallP Try.prog 103 [.yld 7, .ptr 6 0] (G57 t bo co qv false false .ready none) (Ret (.tup []) (G57 t bo co qv A B (bif !(A && B) then .ready else .done) (bif !(A && B) then none else some .ret))) := by
 have c := t103 t hv bo co hbo (step57 Q) (C57 qv) (fun g x hx => y57 t hv bo co qv Q hq g x hx) (false, false)
 rw [run57 Q _ false false rfl, Bool.false_or, Bool.false_or, hA, hB] at c
 simp only at c
 obtain ⟨r, hr⟩ : ∃ r, (!(A && B)) = r := ⟨_, rfl⟩
 rw [hr] at c ⊢
 have h1 : CallP Try.prog 103 [.yld 7, .ptr 6 0] (GP57 t bo co (C57 qv (false, false) true)) (Ret (.tup []) (GP57 t bo co (C57 qv (A, B) r))) := by
  refine c.use S57 ?_ (by (repeat' first|exact fp|refine aN ?_ ?_)) rfl
  exact ⟨rfl, rfl⟩
 rcases hq with ⟨u, v, hu, hv2, rfl, rfl⟩ | ⟨u, v, hu, rfl, rfl⟩ | ⟨h, m, hm, rfl, rfl⟩
 ·refine CallP.pre (entPack (n := 8) (T := argT [.yld 7, .ptr 6 0]) (H := G57 t bo co (.iface 92 (.agg [.int .i64 u, .int .i64 v])) false false .ready none) (D := []) S57 (P57 (.iface 92 (.agg [.int .i64 u, .int .i64 v])) false false .ready none) 7 (by (repeat' first|exact fp|refine aN ?_ ?_)) rfl rfl) ?_
  refine CallP.entR h1 ?_
  cases r
  ·exact entUnpack (n := 8) (T := [some (none, .tup [])]) (H := GP57 t bo co (C57 (.iface 92 (.agg [.int .i64 u, .int .i64 v])) (A, B) false)) (D := []) S57 (P57 (.iface 92 (.agg [.int .i64 u, .int .i64 v])) A B .done (some .ret)) 7 rfl rfl rfl ⟨trivial, trivial, trivial, trivial, trivial⟩
  ·exact entUnpack (n := 8) (T := [some (none, .tup [])]) (H := GP57 t bo co (C57 (.iface 92 (.agg [.int .i64 u, .int .i64 v])) (A, B) true)) (D := []) S57 (P57 (.iface 92 (.agg [.int .i64 u, .int .i64 v])) A B .ready none) 7 rfl rfl rfl ⟨trivial, trivial, trivial, trivial, trivial⟩
 ·refine CallP.pre (entPack (n := 8) (T := argT [.yld 7, .ptr 6 0]) (H := G57 t bo co (.iface 94 (.agg [.int .i64 u, .int .i64 v])) false false .ready none) (D := []) S57 (P57 (.iface 94 (.agg [.int .i64 u, .int .i64 v])) false false .ready none) 7 (by (repeat' first|exact fp|refine aN ?_ ?_)) rfl rfl) ?_
  refine CallP.entR h1 ?_
  cases r
  ·exact entUnpack (n := 8) (T := [some (none, .tup [])]) (H := GP57 t bo co (C57 (.iface 94 (.agg [.int .i64 u, .int .i64 v])) (A, B) false)) (D := []) S57 (P57 (.iface 94 (.agg [.int .i64 u, .int .i64 v])) A B .done (some .ret)) 7 rfl rfl rfl ⟨trivial, trivial, trivial, trivial, trivial⟩
  ·exact entUnpack (n := 8) (T := [some (none, .tup [])]) (H := GP57 t bo co (C57 (.iface 94 (.agg [.int .i64 u, .int .i64 v])) (A, B) true)) (D := []) S57 (P57 (.iface 94 (.agg [.int .i64 u, .int .i64 v])) A B .ready none) 7 rfl rfl rfl ⟨trivial, trivial, trivial, trivial, trivial⟩
 ·refine CallP.pre (entPack (n := 8) (T := argT [.yld 7, .ptr 6 0]) (H := G57 t bo co (.iface 108 (.agg [.int .i64 h, .int .i64 m])) false false .ready none) (D := []) S57 (P57 (.iface 108 (.agg [.int .i64 h, .int .i64 m])) false false .ready none) 7 (by (repeat' first|exact fp|refine aN ?_ ?_)) rfl rfl) ?_
  refine CallP.entR h1 ?_
  cases r
  ·exact entUnpack (n := 8) (T := [some (none, .tup [])]) (H := GP57 t bo co (C57 (.iface 108 (.agg [.int .i64 h, .int .i64 m])) (A, B) false)) (D := []) S57 (P57 (.iface 108 (.agg [.int .i64 h, .int .i64 m])) A B .done (some .ret)) 7 rfl rfl rfl ⟨trivial, trivial, trivial, trivial, trivial⟩
  ·exact entUnpack (n := 8) (T := [some (none, .tup [])]) (H := GP57 t bo co (C57 (.iface 108 (.agg [.int .i64 h, .int .i64 m])) (A, B) true)) (D := []) S57 (P57 (.iface 108 (.agg [.int .i64 h, .int .i64 m])) A B .ready none) 7 rfl rfl rfl ⟨trivial, trivial, trivial, trivial, trivial⟩
theorem t67o (t : TK) (bo : Bool) (co : Nat) : CallP Try.prog 67 [.ptr 1 0] (HQ t bo co) (Ret (.fn (.func 103) [] [.ptr 3 0]) (HQ t bo co ++ [some (.cells [.ptr 1 0])])) := by
 refine callR (E := E) E_ok Try.func67 rfl ?_
 (repeat' first|exact ap|refine aN ?_ ?_)
 exact ent_tau [0, 1, 2, 3] ⟨by (repeat' first|exact fp|refine aN ?_ ?_), by (repeat' first|exact tm|refine aN ?_ ?_), rfl⟩
def K57 (t : TK) (bo : Bool) (co : Nat) (Q : Tru → Bool) : CE → SHeap → Prop := fun ce h' => h' = HQ t bo co ∧ ce = match t.trs.isEmpty with
 | true => .panic (panE 10)
 | false => .ret (.agg [.bool (t.trs.any Q), .bool (t.trs.any fun x => !Q x)])
theorem any_congr {p : Tru → Bool} {l l' : List Tru} (e : ∀ x, x ∈ l ↔ x ∈ l') : l.any p = l'.any p := by
 rw [Bool.eq_iff_iff, List.any_eq_true, List.any_eq_true]
 exact ⟨fun ⟨x, hx, h⟩ => ⟨x, (e x).1 hx, h⟩, fun ⟨x, hx, h⟩ => ⟨x, (e x).2 hx, h⟩⟩
theorem t57 (t : TK) (hv : t.Valid) (bo : Bool) (co : Nat) (hbo : OrdV t bo co) (qv : SV) (Q : Tru → Bool) (hq : IsQ t qv Q) : CallP Try.prog 57 [.ptr 1 0, qv] (HQ t bo co) (K57 t bo co Q) := by
  obtain ⟨A, hA⟩ : ∃ A, (t.trP t.ordL).any Q = A := ⟨_, rfl⟩
  obtain ⟨B, hB⟩ : ∃ B, (t.trP t.ordL).any (fun x => !Q x) = B := ⟨_, rfl⟩
  have hm : ∀ x, x ∈ t.trP t.ordL ↔ x ∈ t.trs := fun x => TK.mem_trP (TK.ordL_ok t)
  have hA2 : t.trs.any Q = A := by rw [← any_congr hm]; exact hA
  have hB2 : t.trs.any (fun x => !Q x) = B := by rw [← any_congr hm]; exact hB
  have hE : t.trs.isEmpty = !(A || B) := by
    rw [← hA2, ← hB2]
    cases t.trs with
    | nil => rfl
    | cons x l =>
      simp only [List.any_cons, List.isEmpty_cons]
      cases Q x <;> simp
  have c := r57 t hv bo co hbo qv Q hq A B hA hB
  have hK : K57 t bo co Q = fun ce h' => h' = HQ t bo co ∧ ce = match !(A || B) with
      | true => .panic (panE 10)
      | false => .ret (.agg [.bool A, .bool B]) := by
    unfold K57
    rw [hE, hA2, hB2]
  rw [hK]
  rcases hq with ⟨u, v, hu, hv2, rfl, rfl⟩ | ⟨u, v, hu, rfl, rfl⟩ | ⟨h, m, hm, rfl, rfl⟩
  all_goals refine callMK (E := E) E_ok Try.func57 rfl ?_
  all_goals (repeat' first|exact ap|refine aN ?_ ?_)
  all_goals refine (t67o t bo co).use [0, 1, 2] ?_ (by (repeat' first|exact fp|refine aN ?_ ?_)) rfl
  all_goals (repeat' first|exact ap|refine aN ?_ ?_)
  all_goals refine rangeP E_ok rfl rfl ?_
  all_goals cases A <;> cases B
  all_goals refine c.use [0, 1, 2, 3, 4, 5, 6, 8] ?_ (by (repeat' first|exact fp|refine aN ?_ ?_)) rfl
  all_goals refine ⟨by decide, ?_⟩
  all_goals first
    | (refine codeP_ret ?_
       refine And.intro trivial ?_
       refine And.intro (fun o h => h) ?_
       refine And.intro ?_ ⟨_, _, ⟨rfl, rfl⟩, ?_⟩
       all_goals first | exact ent_tau [0, 1, 2] ⟨by (repeat' first|exact fp|refine aN ?_ ?_), by (repeat' first|exact tm|refine aN ?_ ?_), rfl⟩ | simp [AllP, under, gB, wB, inR_iff, IntKind.bits]
       done)
    | skip
  all_goals (repeat' first|exact ap|refine aN ?_ ?_)
  all_goals first | exact g1 | exact g1f | exact g2 | exact g2f | exact gn | exact gi | ((with_reducible show under _ _); first | exact fun hh => hh | exact u1 (lt64 (by omega)) | exact u0 (lt64 (by omega)) | exact u0 (by omega) | exact u1 (by omega)) | skip
  all_goals refine must (fun hb => ?_) (fun hb => ?_)
  all_goals first | (exact absurd hb (by decide)) | skip
  all_goals (repeat' first|exact ap|refine aN ?_ ?_)
  all_goals first | exact fun o h => h | skip
  all_goals refine ⟨_, _, ⟨rfl, rfl⟩, ?_⟩
  all_goals exact ent_tau [0, 1, 2] ⟨by (repeat' first|exact fp|refine aN ?_ ?_), by (repeat' first|exact tm|refine aN ?_ ?_), rfl⟩
end Go.Proofs.Ytioajogaghgipaa
/-
 What stops a question; the answer in a word; the office with its order.
-/
namespace Go.Proofs.Ytioajogaghgipaa
open Go Go.Sy Tic
set_option linter.unusedSimpArgs false
set_option maxRecDepth 100000
set_option maxHeartbeats 4000000
attribute [local irreducible] CallP CodeP Ent YieldP

theorem t47n (e0 : Int) : CallP Try.prog 47 [.inil, .ptr 0 0] [some (.cells [.int .i64 e0])] (Ret (.tup []) [some (.cells [.int .i64 e0])]) := by
 refine callR (E := E) E_ok Try.func47 rfl ?_
 all_goals (repeat' first|exact ap|refine aN ?_ ?_)
 all_goals first | exact gd | skip
 all_goals intro h1
 all_goals first | exact absurd h1 (by decide) | (cases h1; done) | skip
 (repeat' first|exact ap|refine aN ?_ ?_)
 exact ent_tau [0] ⟨by (repeat' first|exact fp|refine aN ?_ ?_), by (repeat' first|exact tm|refine aN ?_ ?_), rfl⟩
theorem t47s (e e0 : Int) : CallP Try.prog 47 [panE e, .ptr 0 0] [some (.cells [.int .i64 e0])] (Ret (.tup []) [some (.cells [.int .i64 e])]) := by
 refine callR (E := E) E_ok Try.func47 rfl ?_
 all_goals (repeat' first|exact ap|refine aN ?_ ?_)
 all_goals first | exact gd | skip
 all_goals intro h1
 all_goals first | exact absurd h1 (by decide) | (cases h1; done) | skip
 all_goals (repeat' first|exact ap|refine aN ?_ ?_)
 all_goals (repeat' first|exact ap|refine aN ?_ ?_)
 all_goals first | exact gd | skip
 all_goals intro h2
 all_goals first | exact absurd h2 (by decide) | (cases h2; done) | skip
 all_goals (repeat' first|exact ap|refine aN ?_ ?_)
 all_goals exact ent_tau [0] ⟨by (repeat' first|exact fp|refine aN ?_ ?_), by (repeat' first|exact tm|refine aN ?_ ?_), rfl⟩
def word (a b : Bool) : Int := bif a then (bif b then 1 else 2) else (bif b then 0 else 1)
theorem word_grade {Q : Tru → Bool} {l : List Tru} (h : l ≠ []) : word (l.any Q) (l.any fun x => !Q x) = grade Q l := by
 have e : (l.any fun x => !Q x) = !(l.all Q) := by rw [List.not_all_eq_any_not]
 rw [e]
 unfold word grade
 cases ha : l.all Q with
 | true =>
  have : l.any Q = true := by
   cases l with
   | nil => exact absurd rfl h
   | cons x r =>
    rw [List.all_cons, Bool.and_eq_true] at ha
    rw [List.any_cons, ha.1]
    rfl
  rw [this]
  rfl
 | false => cases l.any Q <;> rfl
theorem t58 (a b : Bool) : CallP Try.prog 58 [.agg [.bool a, .bool b]] [] (Ret (.int .i64 (word a b)) []) := by
 cases a <;> cases b
 ·refine callR (E := E) E_ok Try.func58 rfl ?_
  all_goals (repeat' first|exact ap|refine aN ?_ ?_)
  all_goals first | exact gd | skip
  all_goals intro h1
  all_goals first | exact absurd h1 (by decide) | (cases h1; done) | skip
  all_goals (repeat' first|exact ap|refine aN ?_ ?_)
  all_goals (repeat' first|exact ap|refine aN ?_ ?_)
  all_goals first | exact gd | skip
  all_goals intro h2
  all_goals first | exact absurd h2 (by decide) | (cases h2; done) | skip
  all_goals (repeat' first|exact ap|refine aN ?_ ?_)
  all_goals exact ent_tau [] ⟨by (repeat' first|exact fp|refine aN ?_ ?_), by (repeat' first|exact tm|refine aN ?_ ?_), rfl⟩
 ·refine callR (E := E) E_ok Try.func58 rfl ?_
  all_goals (repeat' first|exact ap|refine aN ?_ ?_)
  all_goals first | exact gd | skip
  all_goals intro h1
  all_goals first | exact absurd h1 (by decide) | (cases h1; done) | skip
  all_goals (repeat' first|exact ap|refine aN ?_ ?_)
  all_goals (repeat' first|exact ap|refine aN ?_ ?_)
  all_goals first | exact gd | skip
  all_goals intro h2
  all_goals first | exact absurd h2 (by decide) | (cases h2; done) | skip
  all_goals (repeat' first|exact ap|refine aN ?_ ?_)
  all_goals exact ent_tau [] ⟨by (repeat' first|exact fp|refine aN ?_ ?_), by (repeat' first|exact tm|refine aN ?_ ?_), rfl⟩
 ·refine callR (E := E) E_ok Try.func58 rfl ?_
  all_goals (repeat' first|exact ap|refine aN ?_ ?_)
  all_goals first | exact gd | skip
  all_goals intro h1
  all_goals first | exact absurd h1 (by decide) | (cases h1; done) | skip
  all_goals (repeat' first|exact ap|refine aN ?_ ?_)
  all_goals exact ent_tau [] ⟨by (repeat' first|exact fp|refine aN ?_ ?_), by (repeat' first|exact tm|refine aN ?_ ?_), rfl⟩
 ·refine callR (E := E) E_ok Try.func58 rfl ?_
  all_goals (repeat' first|exact ap|refine aN ?_ ?_)
  all_goals first | exact gd | skip
  all_goals intro h1
  all_goals first | exact absurd h1 (by decide) | (cases h1; done) | skip
  all_goals (repeat' first|exact ap|refine aN ?_ ?_)
  all_goals (repeat' first|exact ap|refine aN ?_ ?_)
  all_goals first | exact gd | skip
  all_goals intro h2
  all_goals first | exact absurd h2 (by decide) | (cases h2; done) | skip
  all_goals (repeat' first|exact ap|refine aN ?_ ?_)
  all_goals exact ent_tau [] ⟨by (repeat' first|exact fp|refine aN ?_ ?_), by (repeat' first|exact tm|refine aN ?_ ?_), rfl⟩
def HA (t : TK) (c : Nat) : SHeap := [some (.roa 5 t.n (TF t)), some (.cells [.int .i64 t.huts, .osl t.b 0 5 t.n t.cap, .slice 2 1 0 t.n c]), some (.arr 1 t.n c (rowO (srtF t.hut t.n)))]
def HZ (t : TK) : SHeap := [some (.roa 5 t.n (TF t)), some (.cells [.int .i64 t.huts, .osl t.b 0 5 t.n t.cap, .snil])]
theorem entHA (t : TK) (c : Nat) (T : Tm) : Ent 3 ⟨T, HA t c, []⟩ ⟨T, (HA t c).set 1 (some (.cells [.int .i64 t.huts, .osl t.b 0 5 t.n t.cap, .osl true 2 1 t.n c])), []⟩ :=
 entCells (i := 1) (cs' := [.int .i64 t.huts, .osl t.b 0 5 t.n t.cap, .osl true 2 1 t.n c]) rfl (fun η => by simp [denL, den])
def res57 (t : TK) (Q : Tru → Bool) : CE := match t.trs.isEmpty with
 | true => .panic (panE 10)
 | false => .ret (.agg [.bool (t.trs.any Q), .bool (t.trs.any fun x => !Q x)])
def K57a (t : TK) (Q : Tru → Bool) : CE → SHeap → Prop := fun ce h' => h' = [some (.roa 5 t.n (TF t)), some .dead, some .dead] ∧ ce = res57 t Q
def K57z (t : TK) (Q : Tru → Bool) : CE → SHeap → Prop := fun ce h' => h' = [some (.roa 5 t.n (TF t)), some .dead] ∧ ce = res57 t Q
theorem t57a (t : TK) (hv : t.Valid) (h0 : 0 < t.n) (c : Nat) (hc : t.n ≤ c) (qv : SV) (Q : Tru → Bool) (hq : IsQ t qv Q) : CallP Try.prog 57 [.ptr 1 0, qv] (HA t c) (K57a t Q) := by
 have h := t57 t hv true c (.inr ⟨h0, rfl, hc⟩) qv Q hq
 refine CallP.ent (CallP.pre (h' := HQ t true c) (Ent.trans (entHA t c _) ?_) (h.mono fun ce h1 hk => ?_))
 ·rcases hq with ⟨u, v, hu, hv2, rfl, rfl⟩ | ⟨u, v, hu, rfl, rfl⟩ | ⟨h, m, hm, rfl, rfl⟩
  all_goals exact ent_tau [0, 1, 2] ⟨by (repeat' first|exact fp|refine aN ?_ ?_), by (repeat' first|exact tm|refine aN ?_ ?_), rfl⟩
 ·obtain ⟨rfl, rfl⟩ := hk
  refine ⟨res57 t Q, _, ⟨rfl, rfl⟩, ?_⟩
  unfold res57
  cases t.trs.isEmpty
  ·show Ent 3 ⟨[some (none, .agg [.bool (t.trs.any Q), .bool (t.trs.any fun x => !Q x)])], HQ t true c, []⟩ ⟨[some (none, .agg [.bool (t.trs.any Q), .bool (t.trs.any fun x => !Q x)])], [some (.roa 5 t.n (TF t)), some .dead, some .dead], []⟩
   exact ent_tau [0, 1, 2] ⟨by (repeat' first|exact fp|refine aN ?_ ?_), by (repeat' first|exact tm|refine aN ?_ ?_), rfl⟩
  ·show Ent 3 ⟨[some (none, panE 10)], HQ t true c, []⟩ ⟨[some (none, panE 10)], [some (.roa 5 t.n (TF t)), some .dead, some .dead], []⟩
   exact ent_tau [0, 1, 2] ⟨by (repeat' first|exact fp|refine aN ?_ ?_), by (repeat' first|exact tm|refine aN ?_ ?_), rfl⟩
theorem t57z (t : TK) (hv : t.Valid) (h0 : t.n = 0) (qv : SV) (Q : Tru → Bool) (hq : IsQ t qv Q) : CallP Try.prog 57 [.ptr 1 0, qv] (HZ t) (K57z t Q) := by
 have h := t57 t hv false 0 (.inl ⟨h0, rfl, rfl⟩) qv Q hq
 refine CallP.ent (CallP.pre (h' := HQ t false 0) ?_ (h.mono fun ce h1 hk => ?_))
 ·unfold HQ HZ
  rw [h0]
  refine (entCells (i := 1) (cs' := [.int .i64 t.huts, .osl t.b 0 5 0 t.cap, .osl false 2 1 0 0]) rfl (fun η => by simp [denL, den])).trans ?_
  refine (entAlias (i := 0) rfl 1 (rowO (ord t))).trans ?_
  rcases hq with ⟨u, v, hu, hv2, rfl, rfl⟩ | ⟨u, v, hu, rfl, rfl⟩ | ⟨h, m, hm, rfl, rfl⟩
  all_goals exact ent_tau [0, 1, 2] ⟨by (repeat' first|exact fp|refine aN ?_ ?_), by (repeat' first|exact tm|refine aN ?_ ?_), rfl⟩
 ·obtain ⟨rfl, rfl⟩ := hk
  refine ⟨res57 t Q, _, ⟨rfl, rfl⟩, ?_⟩
  unfold res57
  cases t.trs.isEmpty
  ·show Ent 2 ⟨[some (none, .agg [.bool (t.trs.any Q), .bool (t.trs.any fun x => !Q x)])], HQ t false 0, []⟩ ⟨[some (none, .agg [.bool (t.trs.any Q), .bool (t.trs.any fun x => !Q x)])], [some (.roa 5 t.n (TF t)), some .dead], []⟩
   exact ent_tau [0, 1] ⟨by (repeat' first|exact fp|refine aN ?_ ?_), by (repeat' first|exact tm|refine aN ?_ ?_), rfl⟩
  ·show Ent 2 ⟨[some (none, panE 10)], HQ t false 0, []⟩ ⟨[some (none, panE 10)], [some (.roa 5 t.n (TF t)), some .dead], []⟩
   exact ent_tau [0, 1] ⟨by (repeat' first|exact fp|refine aN ?_ ?_), by (repeat' first|exact tm|refine aN ?_ ?_), rfl⟩
end Go.Proofs.Ytioajogaghgipaa
/-
 Contract: ticket.Turn.
-/
namespace Go.Proofs.Ytioajogaghgipaa
open Go Go.Sy Tic
set_option linter.unusedSimpArgs false
set_option maxRecDepth 100000
set_option maxHeartbeats 4000000
attribute [local irreducible] CallP CodeP Ent YieldP
set_option maxHeartbeats 16000000

open Classical in
noncomputable def turnT (t : TK) (k : Int) : Int × Int := if ¬ t.Valid then (0, 1) else if inI k 0 ((t.n : Nat) - 1) = false then (0, 2) else if t.trs = [] then (0, 10) else (t.turn k.toNat, 0)
theorem t16 (t : TK) (hn : t.n ≤ 1000000) (hh : InR .i64 t.huts) (k : Int) : CallP Try.prog 16 [TA t, .int .i64 k] (TH t) (Ret (.tup [.int .i64 (turnT t k).1, .int .i64 (turnT t k).2]) (TH t)) := by
 obtain ⟨B, hB⟩ : ∃ B, inI k 0 ((t.n : Nat) - 1) = B := ⟨_, rfl⟩
 have c49 := t49 t k hn
 rw [hB] at c49
 refine callD (E := E) E_ok Try.func16 rfl Try.func56 ⟨_, _, _, _, _, _, _, _, rfl, rfl, rfl⟩ rfl rfl ?_
 (repeat' first|exact ap|refine aN ?_ ?_)
 refine drawP E_ok [1] pl16_2 (by kernel_rfl) ?_
 (repeat' first|exact ap|refine aN ?_ ?_)
 refine c49.use [0] ?_ (by (repeat' first|exact fp|refine aN ?_ ?_)) rfl
 (repeat' first|exact ap|refine aN ?_ ?_)
 refine CallP.frame (t48 t B hn hh) [0] (by (repeat' first|exact fp|refine aN ?_ ?_)) (apartB_ok rfl) rfl ?_
 rintro ce h' (⟨hv, hb, h0, rfl, rfl⟩ | ⟨hv, hb, h0, c, hc, rfl, rfl⟩ | ⟨hv, rfl, rfl⟩ | ⟨hv, hb, rfl, rfl⟩)
 ·exfalso
  rw [hb, h0] at hB
  have := (inI_iff.1 hB)
  omega
 ·refine ⟨ownB_ok rfl, ?_⟩
  have hk : 0 ≤ k ∧ k ≤ (t.n : Nat) - 1 := inI_iff.1 (hB.trans hb)
  have hn5 := hv.2.1
  obtain ⟨i, rfl⟩ : ∃ i : Nat, k = i := ⟨k.toNat, by omega⟩
  have c57 := t57a t hv h0 c hc.1 _ _ (.inr (.inl ⟨i, 0, by omega, rfl, rfl⟩))
  (repeat' first|exact ap|refine aN ?_ ?_)
  refine CallP.frame c57 [0, 3, 4] (by (repeat' first|exact fp|refine aN ?_ ?_)) (apartB_ok rfl) rfl ?_
  rintro ce h' ⟨rfl, rfl⟩
  refine ⟨ownB_ok rfl, ?_⟩
  unfold res57
  cases hne : t.trs with
  | nil =>
   have e0 : turnT t i = (0, 10) := by unfold turnT; rw [if_neg (by simpa using hv), if_neg (by rw [hB, hb]; decide), if_pos hne]
   simp only [List.isEmpty_nil]
   (repeat' first|exact ap|refine aN ?_ ?_)
   refine (t47s 10 0).use [2] ?_ (by (repeat' first|exact fp|refine aN ?_ ?_)) rfl
   (repeat' first|exact ap|refine aN ?_ ?_)
   refine ⟨_, _, ⟨rfl, rfl⟩, ?_⟩
   rw [e0]
   exact ent_tau [0] ⟨by (repeat' first|exact fp|refine aN ?_ ?_), by (repeat' first|exact tm|refine aN ?_ ?_), rfl⟩
  | cons y l =>
   have hn0 : t.trs ≠ [] := by rw [hne]; exact List.cons_ne_nil _ _
   have e0 : turnT t i = (t.turn i, 0) := by unfold turnT; rw [if_neg (by simpa using hv), if_neg (by rw [hB, hb]; decide), if_neg hn0, Int.toNat_natCast]
   have hw := word_grade (Q := fun x => inTurn t.n x i) hn0
   rw [hne] at hw
   obtain ⟨A, hA⟩ : ∃ A, ((y :: l).any fun x => inTurn t.n x i) = A := ⟨_, rfl⟩
   obtain ⟨A', hA'⟩ : ∃ A, ((y :: l).any fun x => !inTurn t.n x i) = A := ⟨_, rfl⟩
   simp only [List.isEmpty_cons]
   rw [hA, hA'] at hw ⊢
   have c58 := t58 A A'
   have ht : t.turn i = grade (fun x => inTurn t.n x i) (y :: l) := by unfold TK.turn; rw [hne]
   rw [hw, ← ht] at c58
   (repeat' first|exact ap|refine aN ?_ ?_)
   refine (c58).use [] ?_ (by (repeat' first|exact fp|refine aN ?_ ?_)) rfl
   (repeat' first|exact ap|refine aN ?_ ?_)
   refine (t47n 0).use [2] ?_ (by (repeat' first|exact fp|refine aN ?_ ?_)) rfl
   (repeat' first|exact ap|refine aN ?_ ?_)
   refine ⟨_, _, ⟨rfl, rfl⟩, ?_⟩
   rw [e0]
   exact ent_tau [0] ⟨by (repeat' first|exact fp|refine aN ?_ ?_), by (repeat' first|exact tm|refine aN ?_ ?_), rfl⟩
 ·refine ⟨ownB_ok rfl, ?_⟩
  have e0 : turnT t k = (0, 1) := by unfold turnT; rw [if_pos hv]
  (repeat' first|exact ap|refine aN ?_ ?_)
  refine (t47s 1 0).use [2] ?_ (by (repeat' first|exact fp|refine aN ?_ ?_)) rfl
  (repeat' first|exact ap|refine aN ?_ ?_)
  refine ⟨_, _, ⟨rfl, rfl⟩, ?_⟩
  rw [e0]
  exact ent_tau [0] ⟨by (repeat' first|exact fp|refine aN ?_ ?_), by (repeat' first|exact tm|refine aN ?_ ?_), rfl⟩
 ·refine ⟨ownB_ok rfl, ?_⟩
  have e0 : turnT t k = (0, 2) := by unfold turnT; rw [if_neg (by simpa using hv), if_pos (by rw [hB]; exact hb)]
  (repeat' first|exact ap|refine aN ?_ ?_)
  refine (t47s 2 0).use [2] ?_ (by (repeat' first|exact fp|refine aN ?_ ?_)) rfl
  (repeat' first|exact ap|refine aN ?_ ?_)
  refine ⟨_, _, ⟨rfl, rfl⟩, ?_⟩
  rw [e0]
  exact ent_tau [0] ⟨by (repeat' first|exact fp|refine aN ?_ ?_), by (repeat' first|exact tm|refine aN ?_ ?_), rfl⟩
end Go.Proofs.Ytioajogaghgipaa
