/-
  Parts: T4, T7.
-/
import Derived.Test.YtioajogaghgipaaP18
import Derived.Test.YtioajogaghgipaaP25
set_option linter.unusedVariables false
/-
 TicketEnds.
-/
namespace Go.Proofs.Ytioajogaghgipaa
open Go Go.Sy Tic
set_option linter.unusedSimpArgs false
set_option maxRecDepth 100000
set_option maxHeartbeats 4000000
attribute [local irreducible] CallP CodeP Ent YieldP
set_option maxHeartbeats 16000000

theorem turn_bc (t : TK) (b : Bool) (c : Nat) (i : Nat) : ({ t with b := b, cap := c } : TK).turn i = t.turn i := by
 unfold TK.turn
 rw [trs_bc]
theorem fix_valid {t : TK} (hv : t.Valid) {i : Nat} {x y : Int} (hi : i < t.n) (hx : t.bl i ≤ x ∧ x ≤ t.bh i) (hy : t.dl i ≤ y ∧ y ≤ t.dh i) : (t.fix i x y).Valid := by
 refine ⟨hv.1, hv.2.1, fun k hk => ?_⟩
 have h1 := hv.2.2 k hk
 have h2 := hv.2.2 i hi
 unfold TK.okT spanOk at h1 h2
 unfold TK.okT spanOk TK.fix
 simp only
 by_cases c : k = i
 ·subst c
  simp only [if_pos]
  omega
 ·simp only [if_neg c]
  omega
def sj (k j : Nat) (f e : Bool) : Bool := bif decide (k < j) then (bif f then true else e) else f
abbrev EG := Int × Bool × Bool × Bool × Bool × Bool × Bool
def H7 (t : TK) (i : Nat) (f0 f1 f2 f3 : Bool) : SHeap := TH t ++ [some (.cells (tb t)), some (.cells [.int .i64 (t.bought i).1, .int .i64 (t.bought i).2]), some (.cells [.int .i64 (t.door i).1, .int .i64 (t.door i).2]), some (.cells [.bool f0, .bool f1, .bool f2, .bool f3])]
theorem four {P : Nat → Prop} (h0 : P 0) (h1 : P 1) (h2 : P 2) (h3 : P 3) : ∀ k, k < 4 → P k
 | 0, _ => h0
 | 1, _ => h1
 | 2, _ => h2
 | 3, _ => h3
 | k + 4, h => absurd h (by omega)
def H7e (t : TK) (i : Nat) (f0 f1 f2 f3 e0 e1 e2 e3 : Bool) (j : Nat) : SHeap := H7 t i (sj 0 j f0 e0) (sj 1 j f1 e1) (sj 2 j f2 e2) (sj 3 j f3 e3) ++ [some .dead, some (.arr 1 4 4 fun k => [.bool ([e0, e1, e2, e3].getD k false)])]
noncomputable def T7 (i : Nat) : Tm := mkT [] [(2, .ptr 1 0), (4, .bool false), (5, .int .i64 i)] 0 (List.replicate 217 none)
theorem seg7 (t : TK) (hv : t.Valid) (i : Nat) (hi : i < t.n) (hne : t.trs ≠ []) : CodeP Try.prog none 1 (sufC Try.f7 3) ⟨T7 i, TH t ++ [some (.cells (tb t))], []⟩ (KRet E Try.f7 1 (.bool true) (TH t)) := by
 have hn := hv.2.1
 have h4 := hv.1
 have hh : InR .i64 t.huts := ⟨by omega, by omega⟩
 have ei := z1 i
 have c14 := t14 t (by omega) hh i
 rw [min_is hv hne i hi] at c14
 have c16 := t16 t (by omega) hh i
 rw [turn_is hv hne i hi] at c16
 have c30 := t30 t (by omega) hh
 rw [cla_none hv hne] at c30
 dsimp only at c14 c16 c30
 have ok := hv.2.2 i hi
 unfold TK.okT spanOk at ok
 have rl : t.bl (0 + ((i : Nat) : Int).toNat) = t.bl i := by rw [ei]
 have rh : t.bh (0 + ((i : Nat) : Int).toNat) = t.bh i := by rw [ei]
 have sl : t.dl (0 + ((i : Nat) : Int).toNat) = t.dl i := by rw [ei]
 have sh : t.dh (0 + ((i : Nat) : Int).toNat) = t.dh i := by rw [ei]
 refine codeP_XK E_ok 100 ?_
 (repeat' first|exact aq|refine aN ?_ ?_|exact trivial)
 refine c14.use [0] ?_ (by (repeat' first|exact fp|refine aN ?_ ?_)) rfl
 (repeat' first|exact aq|refine aN ?_ ?_|exact trivial)
 refine c16.use [0] ?_ (by (repeat' first|exact fp|refine aN ?_ ?_)) rfl
 (repeat' first|exact aq|refine aN ?_ ?_|exact trivial)
 refine c30.use [0] ?_ (by (repeat' first|exact fp|refine aN ?_ ?_)) rfl
 all_goals (repeat' first|exact aq|refine aN ?_ ?_|exact trivial)
 all_goals first | exact dd | skip
 all_goals intro h1
 all_goals first | exact absurd h1 (by decide) | skip
 all_goals (repeat' first|exact aq|refine aN ?_ ?_|exact trivial)
 all_goals first | exact dd | skip
 all_goals intro h2
 all_goals first | exact absurd h2 (by decide) | skip
 (repeat' first|exact aq|refine aN ?_ ?_|exact trivial)
 all_goals first | exact dd | skip
 refine loopP E_ok [2, 5, 6, 7, 9, 13] (fun g : EG => [(14, .bool g.2.1), (15, .bool g.2.2.1), (16, .int .i64 g.1)]) (fun g _ => H7 t i g.2.2.2.1 g.2.2.2.2.1 g.2.2.2.2.2.1 g.2.2.2.2.2.2) (fun g => t.bl i ≤ g.1 ∧ g.1 ≤ 1000 ∧ EndI t i g.1 (t.dl i) g.2.1 g.2.2.1 g.2.2.2.1 g.2.2.2.2.1 g.2.2.2.2.2.1 g.2.2.2.2.2.2) (fun g => (t.bh i + 1 - g.1).toNat) (t.bl i, true, true, false, false, false, false) ⟨Int.le_refl _, by simp only; omega, EndI.zero⟩ ?_ ?_
 ·refine ent_tau [0, 1, 2, 3, 4] ⟨by (repeat' first|exact fp|refine aN ?_ ?_), ?_, rfl⟩
  (repeat' first|exact tm|refine aN ?_ ?_)
  exact congrArg (SV.int .i64) rl
 clear c14 c16 c30
 rintro ⟨x, al, nv, f0, f1, f2, f3⟩ ⟨hx1, hx2, hI⟩
 simp only at hx1 hx2 hI
 refine And.intro ?_ (And.intro (fun hlx => ?_) (fun hlx => ?_))
 ·(repeat' first|exact aq|refine aN ?_ ?_|exact trivial)
  all_goals first | exact dd | skip
 ·have hlx' : x ≤ t.bh i := by
   have := of_decide_eq_true hlx
   rw [rh] at this
   exact this
  (repeat' first|exact aq|refine aN ?_ ?_|exact trivial)
  all_goals first | exact dd | skip
  refine loopP E_ok [2, 5, 6, 7, 9, 13, 16] (fun g : EG => [(14, .bool g.2.1), (15, .bool g.2.2.1), (17, .int .i64 g.1)]) (fun g _ => H7 t i g.2.2.2.1 g.2.2.2.2.1 g.2.2.2.2.2.1 g.2.2.2.2.2.2) (fun g => t.dl i ≤ g.1 ∧ g.1 ≤ 1000 ∧ EndI t i x g.1 g.2.1 g.2.2.1 g.2.2.2.1 g.2.2.2.2.1 g.2.2.2.2.2.1 g.2.2.2.2.2.2) (fun g => (t.dh i + 1 - g.1).toNat) (t.dl i, al, nv, f0, f1, f2, f3) ⟨Int.le_refl _, by simp only; omega, hI⟩ ?_ ?_
  ·refine ent_tau [0, 1, 2, 3, 4] ⟨by (repeat' first|exact fp|refine aN ?_ ?_), ?_, rfl⟩
   (repeat' first|exact tm|refine aN ?_ ?_)
   exact congrArg (SV.int .i64) sl
  clear hI
  rintro ⟨y, al, nv, f0, f1, f2, f3⟩ ⟨hy1, hy2, hI⟩
  simp only at hy1 hy2 hI
  refine And.intro ?_ (And.intro (fun hly => ?_) (fun hly => ?_))
  ·(repeat' first|exact aq|refine aN ?_ ?_|exact trivial)
   all_goals first | exact dd | skip
  ·have hly' : y ≤ t.dh i := by
    have := of_decide_eq_true hly
    rw [sh] at this
    exact this
   have c41 := t41 t i hi (by omega) x y
   have fv := fix_valid hv hi ⟨hx1, hlx'⟩ ⟨hy1, hly'⟩
   (repeat' first|exact aq|refine aN ?_ ?_|exact trivial)
   refine CallP.frameH c41 [0] (by (repeat' first|exact fp|refine aN ?_ ?_)) rfl ?_
   rintro ce h' ⟨N, c, hN, hc1, hc2, rfl, rfl⟩
   subst hN
   refine ⟨rfl, ?_⟩
   have c16 := t16 { t.fix i x y with b := true, cap := c } (by show t.n ≤ _; omega) hh i
   (repeat' first|exact aq|refine aN ?_ ?_|exact trivial)
   refine CallP.argsD (args' := [.agg [.int .i64 t.huts, .osl true 5 5 t.n c], .int .i64 i]) (fun η => by simp [denL, den]) ?_
   by_cases hf : (t.fix i x y).trs = []
   ·have e16 : turnT { t.fix i x y with b := true, cap := c } i = (0, 10) := by
     unfold turnT
     rw [if_neg (by have := valid_bc true c fv; simpa using this), if_neg (by rw [inI_iff.2 ⟨by omega, by show ((i : Nat) : Int) ≤ (t.n : Nat) - 1; omega⟩]; decide), if_pos (by rw [trs_bc]; exact hf)]
    rw [e16] at c16
    dsimp only at c16
    refine c16.use [5] ?_ (by (repeat' first|exact fp|refine aN ?_ ?_)) rfl
    clear c16 c41
    all_goals (repeat' first|exact aq|refine aN ?_ ?_|exact trivial)
    all_goals first | exact dd | skip
    all_goals intro h3
    all_goals first | exact absurd h3 (by decide) | skip
    (repeat' first|exact aq|refine aN ?_ ?_|exact trivial)
    all_goals first | exact dd | skip
    refine ⟨(y + 1, al, nv, f0, f1, f2, f3), ⟨by simp only; omega, by simp only; omega, hI.skip hf⟩, by simp only; omega, ?_⟩
    exact ent_tau [0, 1, 2, 3, 4] ⟨by (repeat' first|exact fp|refine aN ?_ ?_), by (repeat' first|exact tm|refine aN ?_ ?_), rfl⟩
   ·have e16 : turnT { t.fix i x y with b := true, cap := c } i = ((t.fix i x y).turn i, 0) := by
     refine (turn_is (valid_bc true c fv) (by rw [trs_bc]; exact hf) i hi).trans ?_
     rw [turn_bc]
    rw [e16] at c16
    dsimp only at c16
    have hl : Liv t i x y := ⟨⟨hx1, hlx'⟩, ⟨hy1, hly'⟩, hf⟩
    obtain ⟨q1, q2⟩ := TK.fix_in hne hi hl.1 hl.2.1 hf
    have ca := t36 x (t.bought i).1 (t.bought i).2
    rw [inI_iff.2 q1] at ca
    have cb := t36 y (t.door i).1 (t.door i).2
    rw [inI_iff.2 q2] at cb
    have hI2 := hI.add hl
    refine c16.use [5] ?_ (by (repeat' first|exact fp|refine aN ?_ ?_)) rfl
    clear c16 c41
    all_goals (repeat' first|exact aq|refine aN ?_ ?_|exact trivial)
    all_goals first | exact dd | skip
    all_goals intro h3
    all_goals first | exact absurd h3 (by decide) | skip
    all_goals (repeat' first|exact aq|refine aN ?_ ?_|exact trivial)
    all_goals first | exact dd | skip
    all_goals intro h4
    all_goals first | exact absurd h4 (by decide) | skip
    refine ca.use [] ?_ (by (repeat' first|exact fp|refine aN ?_ ?_)) rfl
    all_goals (repeat' first|exact aq|refine aN ?_ ?_|exact trivial)
    all_goals first | exact dd | skip
    all_goals intro h5
    all_goals first | exact absurd h5 (by decide) | skip
    refine cb.use [] ?_ (by (repeat' first|exact fp|refine aN ?_ ?_)) rfl
    all_goals (repeat' first|exact aq|refine aN ?_ ?_|exact trivial)
    all_goals first | exact dd | skip
    all_goals intro h6
    all_goals first | exact absurd h6 (by decide) | skip
    (repeat' first|exact aq|refine aN ?_ ?_|exact trivial)
    all_goals first | exact dd | skip
    refine loopP E_ok [2, 5, 6, 7, 9, 13, 14, 15, 16, 17, 183, 184] (fun j : Nat => [(185, .int .i64 j)]) (fun j _ => H7e t i f0 f1 f2 f3 (decide (x = (t.bought i).1)) (decide (x = (t.bought i).2)) (decide (y = (t.door i).1)) (decide (y = (t.door i).2)) j) (fun j => j ≤ 4) (fun j => 4 - j) 0 (Nat.zero_le _) ?_ ?_
    ·refine ent_tau [0, 1, 2, 3, 4, 5, 6] ⟨?_, by (repeat' first|exact tm|refine aN ?_ ?_), rfl⟩
     (repeat' first|exact fp|refine aN ?_ ?_)
     all_goals exact four rfl rfl rfl rfl
    rintro j hj
    refine And.intro ?_ (And.intro (fun hlj => ?_) (fun hlj => ?_))
    ·(repeat' first|exact aq|refine aN ?_ ?_|exact trivial)
    ·have hlj' : j < 4 := by
      have := of_decide_eq_true hlj
      omega
     match j, hlj' with
     | 0, _ | 1, _ | 2, _ | 3, _ =>
      (repeat' first|exact aq|refine aN ?_ ?_|exact trivial)
      all_goals first | exact dd | skip
      first | refine ⟨1, by decide, by decide, ?_⟩ | refine ⟨2, by decide, by decide, ?_⟩ | refine ⟨3, by decide, by decide, ?_⟩ | refine ⟨4, by decide, by decide, ?_⟩
      refine ent_tau [0, 1, 2, 3, 4, 5, 6] ⟨?_, by (repeat' first|exact tm|refine aN ?_ ?_), rfl⟩
      (repeat' first|exact fp|refine aN ?_ ?_)
    ·have ej : j = 4 := by
      have := of_decide_eq_false hlj
      omega
     subst ej
     (repeat' first|exact aq|refine aN ?_ ?_|exact trivial)
     all_goals first | exact dd | skip
     refine ⟨(y + 1, _, _, _, _, _, _), ⟨by simp only; omega, by simp only; omega, hI2⟩, by simp only; omega, ?_⟩
     exact ent_tau [0, 1, 2, 3, 4] ⟨by (repeat' first|exact fp|refine aN ?_ ?_), by (repeat' first|exact tm|refine aN ?_ ?_), rfl⟩
  ·(repeat' first|exact aq|refine aN ?_ ?_|exact trivial)
   all_goals first | exact dd | skip
   refine ⟨(x + 1, al, nv, f0, f1, f2, f3), ⟨by simp only; omega, by simp only; omega, hI.next (by have := of_decide_eq_false hly; rw [sh] at this; simp only at this; omega)⟩, by simp only; omega, ?_⟩
   exact ent_tau [0, 1, 2, 3, 4] ⟨by (repeat' first|exact fp|refine aN ?_ ?_), by (repeat' first|exact tm|refine aN ?_ ?_), rfl⟩
 ·have hx : t.bh i < x := by
   have := of_decide_eq_false hlx
   rw [rh] at this
   dsimp only at this
   omega
  obtain ⟨rfl, rfl, rfl, rfl, d2, d0⟩ := hI.done hne hi hx
  (repeat' first|exact aq|refine aN ?_ ?_|exact trivial)
  all_goals first | exact dd | skip
  all_goals intro hy
  all_goals first | (exfalso; revert hy; simp [gB, wB, d2, d0]; done) | skip
  refine t13.use [] ?_ trivial rfl
  (repeat' first|exact aq|refine aN ?_ ?_|exact trivial)
  all_goals first | ((with_reducible show under _ _); simp [under, gB, wB, d2, d0]; done) | skip
  refine ent_tau [0] ⟨by (repeat' first|exact fp|refine aN ?_ ?_), ⟨rfl, ?_, trivial⟩, rfl⟩
  refine congrArg SV.bool ?_
  simp [d2, d0]
end Go.Proofs.Ytioajogaghgipaa
/-
 TicketEnds, its head.
-/
namespace Go.Proofs.Ytioajogaghgipaa
open Go Go.Sy Tic
set_option linter.unusedSimpArgs false
set_option maxRecDepth 100000
set_option maxHeartbeats 4000000
attribute [local irreducible] CallP CodeP Ent YieldP
set_option maxHeartbeats 16000000
-- fast: YtioajogaghgipaaDd

theorem seg7e (t : TK) (hv : t.Valid) (i : Nat) (hi : i < t.n) (he : t.trs = []) : CodeP Try.prog none 1 (sufC Try.f7 3) ⟨T7 i, TH t ++ [some (.cells (tb t))], []⟩ (KRet E Try.f7 1 (.bool true) (TH t)) := by
 have hn := hv.2.1
 have h4 := hv.1
 have hh : InR .i64 t.huts := ⟨by omega, by omega⟩
 have c14 := t14 t (by omega) hh i
 have c16 := t16 t (by omega) hh i
 have c30 := t30 t (by omega) hh
 have i1 : inI ((i : Nat) : Int) 0 ((t.n : Nat) - 1) = true := inI_iff.2 ⟨by omega, by omega⟩
 have e14 : minT t i = (((0, 0), (0, 0)), 10) := by unfold minT; rw [if_neg (by simpa using hv), if_neg (by rw [i1]; decide), if_pos he]
 have e16 : turnT t i = (0, 10) := by unfold turnT; rw [if_neg (by simpa using hv), if_neg (by rw [i1]; decide), if_pos he]
 rw [e14] at c14
 rw [e16] at c16
 rw [cla_is hv he] at c30
 dsimp only at c14 c16 c30
 refine codeP_XK E_ok 100 ?_
 (repeat' first|exact aq|refine aN ?_ ?_|exact trivial)
 refine c14.use [0] ?_ (by (repeat' first|exact fp|refine aN ?_ ?_)) rfl
 (repeat' first|exact aq|refine aN ?_ ?_|exact trivial)
 refine c16.use [0] ?_ (by (repeat' first|exact fp|refine aN ?_ ?_)) rfl
 (repeat' first|exact aq|refine aN ?_ ?_|exact trivial)
 refine c30.use [0] ?_ (by (repeat' first|exact fp|refine aN ?_ ?_)) rfl
 all_goals (repeat' first|exact aq|refine aN ?_ ?_|exact trivial)
 all_goals first | exact dd | skip
 all_goals intro h1
 all_goals first | exact absurd h1 (by decide) | skip
 all_goals (repeat' first|exact aq|refine aN ?_ ?_|exact trivial)
 all_goals first | exact dd | skip
 all_goals intro h2
 all_goals first | exact absurd h2 (by decide) | skip
 (repeat' first|exact aq|refine aN ?_ ?_|exact trivial)
 all_goals first | ((with_reducible show under _ _); simp [under, gB, wB]; done) | skip
 all_goals intro hy
 all_goals first | (exfalso; revert hy; simp [gB, wB]; done) | skip
 refine t13.use [] ?_ trivial rfl
 (repeat' first|exact aq|refine aN ?_ ?_|exact trivial)
 all_goals first | ((with_reducible show under _ _); simp [under, gB, wB]; done) | skip
 exact ent_tau [0] ⟨by (repeat' first|exact fp|refine aN ?_ ?_), by (repeat' first|exact tm|refine aN ?_ ?_), rfl⟩
theorem t7 (t : TK) (hI : InR .i64 t.huts) (hl : t.n ≤ 9223372036854775807) (a : Int) (ha : 0 ≤ a ∧ a ≤ 255) : CallP Try.prog 7 [TA t, .int .u8 a] (TH t) (Ret (.bool true) (TH t)) := by
 have c39 := t39 t
 by_cases h40 : 40 < t.n
 ·rw [decide_eq_true h40] at c39
  refine callR (E := E) E_ok Try.func7 rfl ?_
  (repeat' first|exact aq|refine aN ?_ ?_|exact trivial)
  refine c39.use [0] ?_ (by (repeat' first|exact fp|refine aN ?_ ?_)) rfl
  all_goals (repeat' first|exact aq|refine aN ?_ ?_|exact trivial)
  all_goals first | exact dd | skip
  all_goals intro h1
  all_goals first | exact absurd h1 (by decide) | (cases h1; done) | skip
  (repeat' first|exact aq|refine aN ?_ ?_|exact trivial)
  all_goals first | exact dd | skip
  all_goals (repeat' first|exact aq|refine aN ?_ ?_|exact trivial)
  all_goals first | exact dd | skip
  all_goals intro h2
  all_goals first | exact absurd h2 (by decide) | (cases h2; done) | skip
  (repeat' first|exact aq|refine aN ?_ ?_|exact trivial)
  all_goals first | exact dd | skip
  refine t13.use [] ?_ trivial rfl
  (repeat' first|exact aq|refine aN ?_ ?_|exact trivial)
  exact ent_tau [0] ⟨by (repeat' first|exact fp|refine aN ?_ ?_), by (repeat' first|exact tm|refine aN ?_ ?_), rfl⟩
 ·rw [decide_eq_false h40] at c39
  have c40 := t40 t (by omega)
  obtain ⟨v, hv⟩ : ∃ v, vb t = v := ⟨_, rfl⟩
  rw [hv] at c40
  cases v with
  | false =>
   refine callR (E := E) E_ok Try.func7 rfl ?_
   (repeat' first|exact aq|refine aN ?_ ?_|exact trivial)
   refine c39.use [0] ?_ (by (repeat' first|exact fp|refine aN ?_ ?_)) rfl
   all_goals (repeat' first|exact aq|refine aN ?_ ?_|exact trivial)
   all_goals first | exact dd | skip
   all_goals intro h1
   all_goals first | exact absurd h1 (by decide) | (cases h1; done) | skip
   refine c40.use [0] ?_ (by (repeat' first|exact fp|refine aN ?_ ?_)) rfl
   all_goals (repeat' first|exact aq|refine aN ?_ ?_|exact trivial)
   all_goals first | exact dd | skip
   all_goals intro h2
   all_goals first | exact absurd h2 (by decide) | (cases h2; done) | skip
   (repeat' first|exact aq|refine aN ?_ ?_|exact trivial)
   all_goals first | exact dd | skip
   refine t13.use [] ?_ trivial rfl
   (repeat' first|exact aq|refine aN ?_ ?_|exact trivial)
   exact ent_tau [0] ⟨by (repeat' first|exact fp|refine aN ?_ ?_), by (repeat' first|exact tm|refine aN ?_ ?_), rfl⟩
  | true =>
   have hv := vb_iff.1 hv
   by_cases h5 : t.n = 0
   ·have d5 : decide (((t.n : Nat) : Int) = 0) = true := decide_eq_true (by omega)
    refine callR (E := E) E_ok Try.func7 rfl ?_
    (repeat' first|exact aq|refine aN ?_ ?_|exact trivial)
    refine c39.use [0] ?_ (by (repeat' first|exact fp|refine aN ?_ ?_)) rfl
    all_goals (repeat' first|exact aq|refine aN ?_ ?_|exact trivial)
    all_goals first | exact dd | skip
    all_goals intro h1
    all_goals first | exact absurd h1 (by decide) | (cases h1; done) | skip
    refine c40.use [0] ?_ (by (repeat' first|exact fp|refine aN ?_ ?_)) rfl
    (repeat' first|exact aq|refine aN ?_ ?_|exact trivial)
    all_goals first | exact dd | skip
    all_goals intro h2
    all_goals first | (exfalso; rw [d5] at h2; exact Bool.noConfusion (show true = false from h2)) | skip
    (repeat' first|exact aq|refine aN ?_ ?_|exact trivial)
    refine t13.use [] ?_ trivial rfl
    (repeat' first|exact aq|refine aN ?_ ?_|exact trivial)
    exact ent_tau [0] ⟨by (repeat' first|exact fp|refine aN ?_ ?_), by (repeat' first|exact tm|refine aN ?_ ?_), rfl⟩
   ·have d5 : decide (((t.n : Nat) : Int) = 0) = false := decide_eq_false (by omega)
    obtain ⟨i, hi⟩ : ∃ i : Nat, (a.tmod (t.n : Int)) = (i : Int) ∧ i < t.n := by
     have q1 := Int.tmod_nonneg (t.n : Int) ha.1
     have q2 := Int.tmod_lt_of_pos a (show 0 < (t.n : Int) by omega)
     exact ⟨(a.tmod (t.n : Int)).toNat, by omega, by omega⟩
    refine callRK (E := E) E_ok 3 Try.func7 rfl ?_
    (repeat' first|exact aq|refine aN ?_ ?_|exact trivial)
    refine c39.use [0] ?_ (by (repeat' first|exact fp|refine aN ?_ ?_)) rfl
    all_goals (repeat' first|exact aq|refine aN ?_ ?_|exact trivial)
    all_goals first | exact dd | skip
    all_goals intro h1
    all_goals first | exact absurd h1 (by decide) | (cases h1; done) | skip
    refine c40.use [0] ?_ (by (repeat' first|exact fp|refine aN ?_ ?_)) rfl
    (repeat' first|exact aq|refine aN ?_ ?_|exact trivial)
    all_goals first | exact dd | skip
    all_goals intro h2
    all_goals first | (exfalso; rw [d5] at h2; exact Bool.noConfusion (show false = true from h2)) | skip
    (repeat' first|exact aq|refine aN ?_ ?_|exact trivial)
    all_goals first | exact dd | skip
    refine CodeP.pre ?_ (show CodeP Try.prog none 1 (sufC Try.f7 3) ⟨T7 i, TH t ++ [some (.cells (tb t))], []⟩ (KRet E Try.f7 1 (.bool true) (TH t)) from by
     by_cases he : t.trs = []
     ·exact seg7e t hv i hi.2 he
     ·exact seg7 t hv i hi.2 he)
    refine ent_tau [0, 1] ⟨by (repeat' first|exact fp|refine aN ?_ ?_), ?_, rfl⟩
    (repeat' first|exact tm|refine aN ?_ ?_)
    exact congrArg (SV.int .i64) hi.1
end Go.Proofs.Ytioajogaghgipaa
