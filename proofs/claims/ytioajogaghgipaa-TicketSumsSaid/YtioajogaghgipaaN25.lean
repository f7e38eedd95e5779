/-
  Parts: R3, R4.
-/
import Derived.Test.YtioajogaghgipaaN23
import Derived.Test.YtioajogaghgipaaN24
import Derived.Test.YtioajogaghgipaaN22
set_option linter.unusedVariables false
/-
 The document's truths: all truths that go on from some.
-/
namespace Go.Proofs.Ytioajogaghgipaa
open Go Go.Sy Tic
set_option linter.unusedSimpArgs false
set_option maxRecDepth 100000
set_option maxHeartbeats 4000000
attribute [local irreducible] CallP CodeP Ent YieldP
set_option maxHeartbeats 16000000
-- fast: YtioajogaghgipaaDd

def KRetK (E : Env) (f : Func) (n : Nat) (K : CE → SHeap → Prop) : SE → St → Prop := fun se s => retKS E f.results.toList (fun ce h1 => ∃ ce' h2, K ce' h2 ∧ EntC n ce h1 ce' h2) se s []
def K111 (t : TK) (s0 : Bool) (W : List (List (Int × Int))) : CE → SHeap → Prop := fun ce h' => ∃ (s : Bool) (cO : Nat) (cp cq : Nat → Nat), (s0 = true → s = true) ∧ (s = false → W = []) ∧ (s = true → W.length ≤ cO ∧ cO ≤ 9223372036854775807) ∧
 ce = .ret (match s with | true => .slice 5 2 0 W.length cO | false => .snil) ∧ h' = (match s with
  | true => [some (.roa 5 t.n (TF t)), some .dead, some .dead, some .dead, some .dead, some (.arr 2 W.length cO (rwsT 6 t.n cp cq)), some (poolT t.n W)]
  | false => [some (.roa 5 t.n (TF t)), some .dead, some .dead, some .dead, some .dead])
def H111 (t : TK) (d cb cd : Nat) (L : List (Int × Int)) (s : Bool) (W : List (List (Int × Int))) (cO : Nat) (cp cq : Nat → Nat) : SHeap := match s with
 | true => [some (.roa 5 t.n (TF t)), some (.arr 1 d cb (XB (ofL L))), some (.arr 1 d cd (XD (ofL L))), some (.arr 2 W.length cO (rwsT 4 t.n cp cq)), some (poolT t.n W)]
 | false => [some (.roa 5 t.n (TF t)), some (.arr 1 d cb (XB (ofL L))), some (.arr 1 d cd (XD (ofL L))), some .dead, some .dead]
def A111 (t : TK) (d cb cd : Nat) (s : Bool) (W : List (List (Int × Int))) (cO : Nat) : List SV := [TA t, .agg [.slice 1 1 0 d cb, .slice 2 1 0 d cd], match s with | true => .slice 3 2 0 W.length cO | false => .snil]
def C111 (t : TK) (r : Nat) : Prop := ∀ (d : Nat), d + r = t.n → 1 ≤ d → ∀ (cb cd : Nat) (L : List (Int × Int)) (s : Bool) (W : List (List (Int × Int))) (cO : Nat) (cp cq : Nat → Nat), L.length = d → (d ≤ cb ∧ cb ≤ 9223372036854775807) → (d ≤ cd ∧ cd ≤ 9223372036854775807) →
 (s = false → W = []) → (s = true → W.length ≤ cO ∧ cO ≤ 9223372036854775807) → Day d (ofL L) → (W ++ t.go r L).length ≤ 1000000 →
 CallP Try.prog 111 (A111 t d cb cd s W cO) (H111 t d cb cd L s W cO cp cq) (K111 t s (W ++ t.go r L))

/-! ### In the loops -/
noncomputable def T111 (t : TK) (d : Nat) (s : Bool) (W : List (List (Int × Int))) (cO : Nat) : Tm := mkT [] [(2, match s with | true => .slice 7 2 0 W.length cO | false => .snil), (3, .ptr 5 0), (4, .ptr 6 0), (7, .int .i64 d)] 0 (List.replicate 82 none)
def H111s (t : TK) (p : Bool) (d cb cd : Nat) (L : List (Int × Int)) (s : Bool) (W : List (List (Int × Int))) (cO : Nat) (cp cq : Nat → Nat) : SHeap := match s with
 | true => [some (.roa 5 t.n (TF t)), some (.roa 1 d (XB (ofL L))), some (.roa 1 d (XD (ofL L))), some .dead, some .dead, some (.cells (tb t)), some (.cells [.osl p 1 1 d cb, .osl p 2 1 d cd]), some (.arr 2 W.length cO (rwsT 8 t.n cp cq)), some (poolT t.n W)]
 | false => [some (.roa 5 t.n (TF t)), some (.roa 1 d (XB (ofL L))), some (.roa 1 d (XD (ofL L))), some .dead, some .dead, some (.cells (tb t)), some (.cells [.osl p 1 1 d cb, .osl p 2 1 d cd]), some .dead, some .dead]
abbrev G111 := Nat × Bool × List (List (Int × Int)) × Nat × (Nat → Nat) × (Nat → Nat)
theorem rowX1 {σ : Nat → Nat} {L : List (Int × Int)} {d n : Nat} (hd : L.length = d) {a b : Int} (hn : n ≤ d + 1) : ∀ k, k < n → LF (updD (fun k => (ofL L k).1) d a) k = renL σ (XB (ofL (L ++ [(a, b)])) k) := fun k hk => by
 unfold LF updD XB
 rw [TK.ofL_app, hd]
 by_cases h : k < d
 ·rw [if_neg (by omega), if_pos h]
  rfl
 ·rw [if_pos (by omega), if_neg h, if_pos (by omega)]
  rfl
theorem rowX2 {σ : Nat → Nat} {L : List (Int × Int)} {d n : Nat} (hd : L.length = d) {a b : Int} (hn : n ≤ d + 1) : ∀ k, k < n → LF (updD (fun k => (ofL L k).2) d b) k = renL σ (XD (ofL (L ++ [(a, b)])) k) := fun k hk => by
 unfold LF updD XD
 rw [TK.ofL_app, hd]
 by_cases h : k < d
 ·rw [if_neg (by omega), if_pos h]
  rfl
 ·rw [if_pos (by omega), if_neg h, if_pos (by omega)]
  rfl
theorem day_app {L : List (Int × Int)} {d : Nat} (hL : L.length = d) (hd : Day d (ofL L)) {a b : Int} (ha : 0 ≤ a ∧ a ≤ 240) (hb : 0 ≤ b ∧ b ≤ 240) : Day (0 + d + 1) (ofL (L ++ [(a, b)])) := fun i hi => by
 rw [TK.ofL_app, hL]
 by_cases c : i < d
 ·rw [if_pos c]
  exact hd i c
 ·rw [if_neg c, if_pos (by omega)]
  exact ⟨ha, hb⟩
theorem dp3 {P : Prop} (h : P := by first
 | ((with_reducible show (_ : Int) ≤ _); dsimp only; omega)
 | ((with_reducible show under _ _); dsimp only; first | exact u1 (lt64 (by omega)) | exact u0 (lt64 (by omega)) | exact un ((inR_iff _).2 ⟨by omega, by omega⟩) | exact un (by omega) | exact u1 ⟨by omega, by omega⟩ | exact u0 (by omega))) : P := h
def Inv1 (t : TK) (r : Nat) (L : List (Int × Int)) (s0 : Bool) (W0 : List (List (Int × Int))) (ka : Nat) (s : Bool) (W : List (List (Int × Int))) (cO : Nat) : Prop :=
 ka ≤ cntA t L.length ∧ W = W0 ++ partI (goA t r L) (t.bl L.length) ka ∧ (s = false → W = []) ∧ (s0 = true → s = true) ∧ (s = true → W.length ≤ cO ∧ cO ≤ 9223372036854775807)
def Inv2 (t : TK) (r : Nat) (L : List (Int × Int)) (s0 : Bool) (W0 : List (List (Int × Int))) (ka kb : Nat) (s : Bool) (W : List (List (Int × Int))) (cO : Nat) : Prop :=
 kb ≤ cntB t L.length ∧ W = W0 ++ partI (goA t r L) (t.bl L.length) ka ++ partI (goP1 t r L (t.bl L.length + (ka : Nat))) (t.dl L.length) kb ∧ (s = false → W = []) ∧ (s0 = true → s = true) ∧ (s = true → W.length ≤ cO ∧ cO ≤ 9223372036854775807)
theorem part_all {t : TK} {r : Nat} {L : List (Int × Int)} {W0 : List (List (Int × Int))} {ka kb : Nat} (ha : ka < cntA t L.length) (hb : kb ≤ cntB t L.length) (hlen : (W0 ++ t.go (r + 1) L).length ≤ 1000000) :
  (W0 ++ partI (goA t r L) (t.bl L.length) ka ++ partI (goP1 t r L (t.bl L.length + (ka : Nat))) (t.dl L.length) kb).length ≤ 1000000 := by
 have h1 := partI_le (goP1 t r L (t.bl L.length + (ka : Nat))) (t.dl L.length) hb
 have h2 := partI_le (goA t r L) (t.bl L.length) (show ka + 1 ≤ cntA t L.length from ha)
 rw [partI_succ, List.length_append] at h2
 have e : (goA t r L (t.bl L.length + (ka : Nat))).length = (partI (goP1 t r L (t.bl L.length + (ka : Nat))) (t.dl L.length) (cntB t L.length)).length := rfl
 rw [go_part, List.length_append] at hlen
 rw [List.length_append, List.length_append]
 omega
theorem seg111 {t : TK} (hv : t.Valid) {r : Nat} (ih : C111 t r) (p : Bool) (d : Nat) (hd : d + (r + 1) = t.n) (cb cd : Nat) (hp : p = false → d = 0 ∧ cb = 0 ∧ cd = 0) (L : List (Int × Int)) (hL : L.length = d) (s0 : Bool) (W0 : List (List (Int × Int))) (cO0 : Nat) (cp0 cq0 : Nat → Nat)
  (hs : s0 = false → W0 = []) (hc : s0 = true → W0.length ≤ cO0 ∧ cO0 ≤ 9223372036854775807) (hday : Day d (ofL L)) (hlen : (W0 ++ t.go (r + 1) L).length ≤ 1000000) :
  CodeP Try.prog none 5 (sufC Try.f111 3) ⟨T111 t d s0 W0 cO0, H111s t p d cb cd L s0 W0 cO0 cp0 cq0, []⟩ (KRetK E Try.f111 5 (K111 t s0 (W0 ++ t.go (r + 1) L))) := by
 have hn5 := hv.2.1
 have hdn : d < t.n := by omega
 have ok := hv.2.2 d hdn
 unfold TK.okT spanOk at ok
 have ed := z1 d
 have rl : t.bl (0 + ((d : Nat) : Int).toNat) = t.bl d := by rw [ed]
 have rh : t.bh (0 + ((d : Nat) : Int).toNat) = t.bh d := by rw [ed]
 have sl : t.dl (0 + ((d : Nat) : Int).toNat) = t.dl d := by rw [ed]
 have sh : t.dh (0 + ((d : Nat) : Int).toNat) = t.dh d := by rw [ed]
 have hA : cntA t L.length ≤ 3 ∧ t.bl d + (cntA t L.length : Int) = t.bh d + 1 := by unfold cntA; rw [hL]; omega
 have hB : cntB t L.length ≤ 3 ∧ t.dl d + (cntB t L.length : Int) = t.dh d + 1 := by unfold cntB; rw [hL]; omega
 cases s0 with
 | true =>
  refine codeP_XK E_ok 1 ?_
  (repeat' first|exact aq|refine aN ?_ ?_|exact trivial)
  all_goals first | exact dd | skip
  refine loopP E_ok [3, 4, 7] (fun g : G111 => [(2, match g.2.1 with | true => .slice 7 2 0 g.2.2.1.length g.2.2.2.1 | false => .snil), (8, .int .i64 (t.bl d + (g.1 : Int)))]) (fun g _ => H111s t p d cb cd L g.2.1 g.2.2.1 g.2.2.2.1 g.2.2.2.2.1 g.2.2.2.2.2)
   (fun g => Inv1 t r L true W0 g.1 g.2.1 g.2.2.1 g.2.2.2.1) (fun g => cntA t L.length - g.1) (0, true, W0, cO0, cp0, cq0) ⟨Nat.zero_le _, by rw [partI_zero, List.append_nil], hs, fun h => h, hc⟩ ?_ ?_
  ·refine ent_tau [0, 1, 2, 3, 4, 5, 6, 7, 8] ⟨by (repeat' first|exact fp|refine aN ?_ ?_), ?_, rfl⟩
   (repeat' first|exact tm|refine aN ?_ ?_)
   exact congrArg (SV.int .i64) (rl.trans (by simp))
  rintro ⟨ka, s, W, cO, cp, cq⟩ ⟨ha, hW, i1, i2, i3⟩
  dsimp only at ha hW i1 i2 i3
  cases s with
  | true =>
   refine And.intro ?_ (And.intro (fun hlx => ?_) (fun hlx => ?_))
   ·(repeat' first|exact aq|refine aN ?_ ?_|exact trivial)
    all_goals first | exact dd | skip
   ·have hlx' : ka < cntA t L.length := by
     have := of_decide_eq_true hlx
     rw [rh] at this
     omega
    (repeat' first|exact aq|refine aN ?_ ?_|exact trivial)
    all_goals first | exact dd | skip
    refine loopP E_ok [3, 4, 7, 8] (fun g : G111 => [(2, match g.2.1 with | true => .slice 7 2 0 g.2.2.1.length g.2.2.2.1 | false => .snil), (9, .int .i64 (t.dl d + (g.1 : Int)))]) (fun g _ => H111s t p d cb cd L g.2.1 g.2.2.1 g.2.2.2.1 g.2.2.2.2.1 g.2.2.2.2.2)
     (fun g => Inv2 t r L true W0 ka g.1 g.2.1 g.2.2.1 g.2.2.2.1) (fun g => cntB t L.length - g.1) (0, true, W, cO, cp, cq) ⟨Nat.zero_le _, by rw [partI_zero, List.append_nil]; exact hW, i1, fun h => h, i3⟩ ?_ ?_
    ·refine ent_tau [0, 1, 2, 3, 4, 5, 6, 7, 8] ⟨by (repeat' first|exact fp|refine aN ?_ ?_), ?_, rfl⟩
     (repeat' first|exact tm|refine aN ?_ ?_)
     exact congrArg (SV.int .i64) (sl.trans (by simp))
    rintro ⟨kb, s2, W2, cO2, cp2, cq2⟩ ⟨hb, hW2, j1, j2, j3⟩
    dsimp only at hb hW2 j1 j2 j3
    cases s2 with
    | true =>
     refine And.intro ?_ (And.intro (fun hly => ?_) (fun hly => ?_))
     ·(repeat' first|exact aq|refine aN ?_ ?_|exact trivial)
      all_goals first | exact dd | skip
     ·have hly' : kb < cntB t L.length := by
       have := of_decide_eq_true hly
       rw [sh] at this
       omega
      (repeat' first|exact aq|refine aN ?_ ?_|exact trivial)
      refine drawN E_ok [5, 6] ?_
      refine node_ent ?_ rfl (st111s t p d (t.bl d + (ka : Int)) (t.dl d + (kb : Int)) cb cd (fun k => (ofL L k).1) (fun k => (ofL L k).2) _ W2.length cO2 (2 * W2.length) cp2 cq2 (fun _ => t.n) (pgT W2) (by omega) (KD_good _ _ _) (KD_put fun _ _ s h => by obtain ⟨_, _, D⟩ := s; cases D <;> exact h) ?_)
      ·refine ent_tau [0, 1, 2, 3, 4, 5, 6, 7, 8] ⟨by (repeat' first|exact fp|refine aN ?_ ?_), by (repeat' first|exact tm|refine aN ?_ ?_), rfl⟩
      intro c1 c2 c3 c4 h1 h2 h3 h4
      have hab : (t.bl d + (ka : Int) ≤ t.bh d ∧ t.dl d + (kb : Int) ≤ t.dh d) := by omega
      obtain ⟨a, ea⟩ : ∃ a : Int, t.bl d + (ka : Int) = a := ⟨_, rfl⟩
      obtain ⟨b, eb⟩ : ∃ b : Int, t.dl d + (kb : Int) = b := ⟨_, rfl⟩
      have hday2 : Day (0 + d + 1) (ofL (L ++ [(t.bl d + (ka : Int), t.dl d + (kb : Int))])) := day_app hL hday ⟨by omega, by omega⟩ ⟨by omega, by omega⟩
      have c115 := t115 t (by omega) ⟨true, c2, true, c4⟩ (ofL (L ++ [(t.bl d + (ka : Int), t.dl d + (kb : Int))])) (0 + d) (by omega) hday2
      have hfx : fitsX t (ofL (L ++ [(t.bl d + (ka : Int), t.dl d + (kb : Int))])) (0 + d) = t.fits L (t.bl L.length + (ka : Int), t.dl L.length + (kb : Int)) := by
       rw [Nat.zero_add, ← hL]
       exact fitsX_is t L _
      obtain ⟨q, hq⟩ : ∃ q, t.fits L (t.bl L.length + (ka : Int), t.dl L.length + (kb : Int)) = q := ⟨_, rfl⟩
      rw [hfx, hq] at c115
      have hpl := part_all (W0 := W0) hlx' (show kb + 1 ≤ cntB t L.length from hly') hlen
      rw [partI_succ, ← List.append_assoc, ← hW2] at hpl
      cases q with
      | true =>
       have eP : W2 ++ t.go r (L ++ [(t.bl d + (ka : Int), t.dl d + (kb : Int))]) = W0 ++ partI (goA t r L) (t.bl L.length) ka ++ partI (goP1 t r L (t.bl L.length + (ka : Nat))) (t.dl L.length) (kb + 1) := by
        rw [partI_succ, goP1_yes hq, hW2, List.append_assoc, hL]
       rw [goP1_yes hq, hL] at hpl
       (repeat' first|exact aq|refine aN ?_ ?_|exact trivial)
       refine CallP.argsD (args' := [.agg [.int .i64 t.huts, .osl t.b 0 5 t.n t.cap], .agg [.osl true 12 1 (0 + d + 1) c2, .osl true 16 1 (0 + d + 1) c4]]) (fun η => by simp [denL, den]) ?_
       refine c115.use [0, 12, 16] ?_ ?_ rfl
       rotate_left
       ·(repeat' first|exact fp|refine aN ?_ ?_)
        all_goals first | exact rowX1 hL (by omega) | exact rowX2 hL (by omega)
       all_goals (repeat' first|exact aq|refine aN ?_ ?_|exact trivial)
       all_goals first | exact dd | skip
       all_goals intro hx
       all_goals first | exact absurd hx (by decide) | (cases hx; done) | skip
       (repeat' first|exact aq|refine aN ?_ ?_|exact trivial)
       refine CallP.frameH (ih (0 + d + 1) (by omega) (by omega) c2 c4 (L ++ [(t.bl d + (ka : Int), t.dl d + (kb : Int))]) true W2 cO2 cp2 cq2 (by simp [hL]) ⟨h2.1, h2.2⟩ ⟨h4.1, h4.2⟩ j1 j3 hday2 hpl) [0, 12, 16, 7, 8] ?_ rfl ?_
       ·(repeat' first|exact fp|refine aN ?_ ?_)
        all_goals first | exact rowX1 hL (by omega) | exact rowX2 hL (by omega)
       rintro ce h' ⟨s3, cO3, cp3, cq3, k1, k2, k3, rfl, rfl⟩
       cases s3 with
       | true =>
        refine ⟨rfl, ?_⟩
        (repeat' first|exact aq|refine aN ?_ ?_|exact trivial)
        all_goals first | exact dd | exact dp3 | skip
        refine ⟨(kb + 1, true, W2 ++ t.go r (L ++ [(t.bl d + (ka : Int), t.dl d + (kb : Int))]), cO3, cp3, cq3), ⟨hly', eP, fun h => Bool.noConfusion h, fun _ => rfl, k3⟩, by simp only; omega, ?_⟩
        refine ent_tau [0, 1, 2, 3, 4, 5, 6, 18, 19] ⟨by (repeat' first|exact fp|refine aN ?_ ?_), ?_, rfl⟩
        (repeat' first|exact tm|refine aN ?_ ?_)
        exact congrArg (SV.int .i64) (show t.dl d + ((kb : Nat) : Int) + 1 = t.dl d + ((kb + 1 : Nat) : Int) by omega)
       | false =>
        exact absurd (k1 rfl) (by decide)
      | false =>
       (repeat' first|exact aq|refine aN ?_ ?_|exact trivial)
       refine CallP.argsD (args' := [.agg [.int .i64 t.huts, .osl t.b 0 5 t.n t.cap], .agg [.osl true 12 1 (0 + d + 1) c2, .osl true 16 1 (0 + d + 1) c4]]) (fun η => by simp [denL, den]) ?_
       refine c115.use [0, 12, 16] ?_ ?_ rfl
       rotate_left
       ·(repeat' first|exact fp|refine aN ?_ ?_)
        all_goals first | exact rowX1 hL (by omega) | exact rowX2 hL (by omega)
       all_goals (repeat' first|exact aq|refine aN ?_ ?_|exact trivial)
       all_goals first | exact dd | skip
       all_goals intro hx
       all_goals first | exact absurd hx (by decide) | (cases hx; done) | skip
       (repeat' first|exact aq|refine aN ?_ ?_|exact trivial)
       all_goals first | exact dd | exact dp3 | skip
       refine ⟨(kb + 1, true, W2, cO2, cp2, cq2), ⟨hly', by rw [partI_succ, goP1_no hq, List.append_nil]; exact hW2, j1, j2, j3⟩, by simp only; omega, ?_⟩
       refine ent_tau [0, 1, 2, 3, 4, 5, 6, 7, 8] ⟨by (repeat' first|exact fp|refine aN ?_ ?_), ?_, rfl⟩
       (repeat' first|exact tm|refine aN ?_ ?_)
       exact congrArg (SV.int .i64) (show t.dl d + ((kb : Nat) : Int) + 1 = t.dl d + ((kb + 1 : Nat) : Int) by omega)
     ·have hz : kb = cntB t L.length := by
       have := of_decide_eq_false hly
       rw [sh] at this
       dsimp only at this
       omega
      (repeat' first|exact aq|refine aN ?_ ?_|exact trivial)
      all_goals first | exact dd | exact dp3 | skip
      refine ⟨(ka + 1, true, W2, cO2, cp2, cq2), ⟨hlx', by rw [partI_succ]; subst hz; rw [hW2, List.append_assoc]; rfl, j1, fun _ => rfl, j3⟩, by simp only; omega, ?_⟩
      refine ent_tau [0, 1, 2, 3, 4, 5, 6, 7, 8] ⟨by (repeat' first|exact fp|refine aN ?_ ?_), ?_, rfl⟩
      (repeat' first|exact tm|refine aN ?_ ?_)
      exact congrArg (SV.int .i64) (show t.bl d + ((ka : Nat) : Int) + 1 = t.bl d + ((ka + 1 : Nat) : Int) by omega)
    | false =>
     exact absurd (j2 rfl) (by decide)
   ·have hz : ka = cntA t L.length := by
     have := of_decide_eq_false hlx
     rw [rh] at this
     dsimp only at this
     omega
    have hWf : W0 ++ t.go (r + 1) L = W := by rw [go_part, hW, hz]
    (repeat' first|exact aq|refine aN ?_ ?_|exact trivial)
    refine codeP_XK E_ok 10 ?_
    (repeat' first|exact aq|refine aN ?_ ?_|exact trivial)
    refine ⟨.ret (.slice 5 2 0 W.length cO), [some (.roa 5 t.n (TF t)), some .dead, some .dead, some .dead, some .dead, some (.arr 2 W.length cO (rwsT 6 t.n cp cq)), some (poolT t.n W)], ?_, ?_⟩
    ·rw [hWf]
     exact ⟨true, cO, cp, cq, fun _ => rfl, i1, i3, rfl, rfl⟩
    ·exact ent_tau [0, 1, 2, 3, 4, 7, 8] ⟨by (repeat' first|exact fp|refine aN ?_ ?_), by (repeat' first|exact tm|refine aN ?_ ?_), rfl⟩
  | false =>
   exact absurd (i2 rfl) (by decide)
 | false =>
  refine codeP_XK E_ok 1 ?_
  (repeat' first|exact aq|refine aN ?_ ?_|exact trivial)
  all_goals first | exact dd | skip
  refine loopP E_ok [3, 4, 7] (fun g : G111 => [(2, match g.2.1 with | true => .slice 7 2 0 g.2.2.1.length g.2.2.2.1 | false => .snil), (8, .int .i64 (t.bl d + (g.1 : Int)))]) (fun g _ => H111s t p d cb cd L g.2.1 g.2.2.1 g.2.2.2.1 g.2.2.2.2.1 g.2.2.2.2.2)
   (fun g => Inv1 t r L false W0 g.1 g.2.1 g.2.2.1 g.2.2.2.1) (fun g => cntA t L.length - g.1) (0, false, W0, cO0, cp0, cq0) ⟨Nat.zero_le _, by rw [partI_zero, List.append_nil], hs, fun h => h, hc⟩ ?_ ?_
  ·refine ent_tau [0, 1, 2, 3, 4, 5, 6, 7, 8] ⟨by (repeat' first|exact fp|refine aN ?_ ?_), ?_, rfl⟩
   (repeat' first|exact tm|refine aN ?_ ?_)
   exact congrArg (SV.int .i64) (rl.trans (by simp))
  rintro ⟨ka, s, W, cO, cp, cq⟩ ⟨ha, hW, i1, i2, i3⟩
  dsimp only at ha hW i1 i2 i3
  cases s with
  | true =>
   refine And.intro ?_ (And.intro (fun hlx => ?_) (fun hlx => ?_))
   ·(repeat' first|exact aq|refine aN ?_ ?_|exact trivial)
    all_goals first | exact dd | skip
   ·have hlx' : ka < cntA t L.length := by
     have := of_decide_eq_true hlx
     rw [rh] at this
     omega
    (repeat' first|exact aq|refine aN ?_ ?_|exact trivial)
    all_goals first | exact dd | skip
    refine loopP E_ok [3, 4, 7, 8] (fun g : G111 => [(2, match g.2.1 with | true => .slice 7 2 0 g.2.2.1.length g.2.2.2.1 | false => .snil), (9, .int .i64 (t.dl d + (g.1 : Int)))]) (fun g _ => H111s t p d cb cd L g.2.1 g.2.2.1 g.2.2.2.1 g.2.2.2.2.1 g.2.2.2.2.2)
     (fun g => Inv2 t r L true W0 ka g.1 g.2.1 g.2.2.1 g.2.2.2.1) (fun g => cntB t L.length - g.1) (0, true, W, cO, cp, cq) ⟨Nat.zero_le _, by rw [partI_zero, List.append_nil]; exact hW, i1, fun h => h, i3⟩ ?_ ?_
    ·refine ent_tau [0, 1, 2, 3, 4, 5, 6, 7, 8] ⟨by (repeat' first|exact fp|refine aN ?_ ?_), ?_, rfl⟩
     (repeat' first|exact tm|refine aN ?_ ?_)
     exact congrArg (SV.int .i64) (sl.trans (by simp))
    rintro ⟨kb, s2, W2, cO2, cp2, cq2⟩ ⟨hb, hW2, j1, j2, j3⟩
    dsimp only at hb hW2 j1 j2 j3
    cases s2 with
    | true =>
     refine And.intro ?_ (And.intro (fun hly => ?_) (fun hly => ?_))
     ·(repeat' first|exact aq|refine aN ?_ ?_|exact trivial)
      all_goals first | exact dd | skip
     ·have hly' : kb < cntB t L.length := by
       have := of_decide_eq_true hly
       rw [sh] at this
       omega
      (repeat' first|exact aq|refine aN ?_ ?_|exact trivial)
      refine drawN E_ok [5, 6] ?_
      refine node_ent ?_ rfl (st111s t p d (t.bl d + (ka : Int)) (t.dl d + (kb : Int)) cb cd (fun k => (ofL L k).1) (fun k => (ofL L k).2) _ W2.length cO2 (2 * W2.length) cp2 cq2 (fun _ => t.n) (pgT W2) (by omega) (KD_good _ _ _) (KD_put fun _ _ s h => by obtain ⟨_, _, D⟩ := s; cases D <;> exact h) ?_)
      ·refine ent_tau [0, 1, 2, 3, 4, 5, 6, 7, 8] ⟨by (repeat' first|exact fp|refine aN ?_ ?_), by (repeat' first|exact tm|refine aN ?_ ?_), rfl⟩
      intro c1 c2 c3 c4 h1 h2 h3 h4
      have hab : (t.bl d + (ka : Int) ≤ t.bh d ∧ t.dl d + (kb : Int) ≤ t.dh d) := by omega
      obtain ⟨a, ea⟩ : ∃ a : Int, t.bl d + (ka : Int) = a := ⟨_, rfl⟩
      obtain ⟨b, eb⟩ : ∃ b : Int, t.dl d + (kb : Int) = b := ⟨_, rfl⟩
      have hday2 : Day (0 + d + 1) (ofL (L ++ [(t.bl d + (ka : Int), t.dl d + (kb : Int))])) := day_app hL hday ⟨by omega, by omega⟩ ⟨by omega, by omega⟩
      have c115 := t115 t (by omega) ⟨true, c2, true, c4⟩ (ofL (L ++ [(t.bl d + (ka : Int), t.dl d + (kb : Int))])) (0 + d) (by omega) hday2
      have hfx : fitsX t (ofL (L ++ [(t.bl d + (ka : Int), t.dl d + (kb : Int))])) (0 + d) = t.fits L (t.bl L.length + (ka : Int), t.dl L.length + (kb : Int)) := by
       rw [Nat.zero_add, ← hL]
       exact fitsX_is t L _
      obtain ⟨q, hq⟩ : ∃ q, t.fits L (t.bl L.length + (ka : Int), t.dl L.length + (kb : Int)) = q := ⟨_, rfl⟩
      rw [hfx, hq] at c115
      have hpl := part_all (W0 := W0) hlx' (show kb + 1 ≤ cntB t L.length from hly') hlen
      rw [partI_succ, ← List.append_assoc, ← hW2] at hpl
      cases q with
      | true =>
       have eP : W2 ++ t.go r (L ++ [(t.bl d + (ka : Int), t.dl d + (kb : Int))]) = W0 ++ partI (goA t r L) (t.bl L.length) ka ++ partI (goP1 t r L (t.bl L.length + (ka : Nat))) (t.dl L.length) (kb + 1) := by
        rw [partI_succ, goP1_yes hq, hW2, List.append_assoc, hL]
       rw [goP1_yes hq, hL] at hpl
       (repeat' first|exact aq|refine aN ?_ ?_|exact trivial)
       refine CallP.argsD (args' := [.agg [.int .i64 t.huts, .osl t.b 0 5 t.n t.cap], .agg [.osl true 12 1 (0 + d + 1) c2, .osl true 16 1 (0 + d + 1) c4]]) (fun η => by simp [denL, den]) ?_
       refine c115.use [0, 12, 16] ?_ ?_ rfl
       rotate_left
       ·(repeat' first|exact fp|refine aN ?_ ?_)
        all_goals first | exact rowX1 hL (by omega) | exact rowX2 hL (by omega)
       all_goals (repeat' first|exact aq|refine aN ?_ ?_|exact trivial)
       all_goals first | exact dd | skip
       all_goals intro hx
       all_goals first | exact absurd hx (by decide) | (cases hx; done) | skip
       (repeat' first|exact aq|refine aN ?_ ?_|exact trivial)
       refine CallP.frameH (ih (0 + d + 1) (by omega) (by omega) c2 c4 (L ++ [(t.bl d + (ka : Int), t.dl d + (kb : Int))]) true W2 cO2 cp2 cq2 (by simp [hL]) ⟨h2.1, h2.2⟩ ⟨h4.1, h4.2⟩ j1 j3 hday2 hpl) [0, 12, 16, 7, 8] ?_ rfl ?_
       ·(repeat' first|exact fp|refine aN ?_ ?_)
        all_goals first | exact rowX1 hL (by omega) | exact rowX2 hL (by omega)
       rintro ce h' ⟨s3, cO3, cp3, cq3, k1, k2, k3, rfl, rfl⟩
       cases s3 with
       | true =>
        refine ⟨rfl, ?_⟩
        (repeat' first|exact aq|refine aN ?_ ?_|exact trivial)
        all_goals first | exact dd | exact dp3 | skip
        refine ⟨(kb + 1, true, W2 ++ t.go r (L ++ [(t.bl d + (ka : Int), t.dl d + (kb : Int))]), cO3, cp3, cq3), ⟨hly', eP, fun h => Bool.noConfusion h, fun _ => rfl, k3⟩, by simp only; omega, ?_⟩
        refine ent_tau [0, 1, 2, 3, 4, 5, 6, 18, 19] ⟨by (repeat' first|exact fp|refine aN ?_ ?_), ?_, rfl⟩
        (repeat' first|exact tm|refine aN ?_ ?_)
        exact congrArg (SV.int .i64) (show t.dl d + ((kb : Nat) : Int) + 1 = t.dl d + ((kb + 1 : Nat) : Int) by omega)
       | false =>
        exact absurd (k1 rfl) (by decide)
      | false =>
       (repeat' first|exact aq|refine aN ?_ ?_|exact trivial)
       refine CallP.argsD (args' := [.agg [.int .i64 t.huts, .osl t.b 0 5 t.n t.cap], .agg [.osl true 12 1 (0 + d + 1) c2, .osl true 16 1 (0 + d + 1) c4]]) (fun η => by simp [denL, den]) ?_
       refine c115.use [0, 12, 16] ?_ ?_ rfl
       rotate_left
       ·(repeat' first|exact fp|refine aN ?_ ?_)
        all_goals first | exact rowX1 hL (by omega) | exact rowX2 hL (by omega)
       all_goals (repeat' first|exact aq|refine aN ?_ ?_|exact trivial)
       all_goals first | exact dd | skip
       all_goals intro hx
       all_goals first | exact absurd hx (by decide) | (cases hx; done) | skip
       (repeat' first|exact aq|refine aN ?_ ?_|exact trivial)
       all_goals first | exact dd | exact dp3 | skip
       refine ⟨(kb + 1, true, W2, cO2, cp2, cq2), ⟨hly', by rw [partI_succ, goP1_no hq, List.append_nil]; exact hW2, j1, j2, j3⟩, by simp only; omega, ?_⟩
       refine ent_tau [0, 1, 2, 3, 4, 5, 6, 7, 8] ⟨by (repeat' first|exact fp|refine aN ?_ ?_), ?_, rfl⟩
       (repeat' first|exact tm|refine aN ?_ ?_)
       exact congrArg (SV.int .i64) (show t.dl d + ((kb : Nat) : Int) + 1 = t.dl d + ((kb + 1 : Nat) : Int) by omega)
     ·have hz : kb = cntB t L.length := by
       have := of_decide_eq_false hly
       rw [sh] at this
       dsimp only at this
       omega
      (repeat' first|exact aq|refine aN ?_ ?_|exact trivial)
      all_goals first | exact dd | exact dp3 | skip
      refine ⟨(ka + 1, true, W2, cO2, cp2, cq2), ⟨hlx', by rw [partI_succ]; subst hz; rw [hW2, List.append_assoc]; rfl, j1, fun _ => rfl, j3⟩, by simp only; omega, ?_⟩
      refine ent_tau [0, 1, 2, 3, 4, 5, 6, 7, 8] ⟨by (repeat' first|exact fp|refine aN ?_ ?_), ?_, rfl⟩
      (repeat' first|exact tm|refine aN ?_ ?_)
      exact congrArg (SV.int .i64) (show t.bl d + ((ka : Nat) : Int) + 1 = t.bl d + ((ka + 1 : Nat) : Int) by omega)
    | false =>
     exact absurd (j2 rfl) (by decide)
   ·have hz : ka = cntA t L.length := by
     have := of_decide_eq_false hlx
     rw [rh] at this
     dsimp only at this
     omega
    have hWf : W0 ++ t.go (r + 1) L = W := by rw [go_part, hW, hz]
    (repeat' first|exact aq|refine aN ?_ ?_|exact trivial)
    refine codeP_XK E_ok 10 ?_
    (repeat' first|exact aq|refine aN ?_ ?_|exact trivial)
    refine ⟨.ret (.slice 5 2 0 W.length cO), [some (.roa 5 t.n (TF t)), some .dead, some .dead, some .dead, some .dead, some (.arr 2 W.length cO (rwsT 6 t.n cp cq)), some (poolT t.n W)], ?_, ?_⟩
    ·rw [hWf]
     exact ⟨true, cO, cp, cq, fun _ => rfl, i1, i3, rfl, rfl⟩
    ·exact ent_tau [0, 1, 2, 3, 4, 7, 8] ⟨by (repeat' first|exact fp|refine aN ?_ ?_), by (repeat' first|exact tm|refine aN ?_ ?_), rfl⟩
  | false =>
   refine And.intro ?_ (And.intro (fun hlx => ?_) (fun hlx => ?_))
   ·(repeat' first|exact aq|refine aN ?_ ?_|exact trivial)
    all_goals first | exact dd | skip
   ·have hlx' : ka < cntA t L.length := by
     have := of_decide_eq_true hlx
     rw [rh] at this
     omega
    (repeat' first|exact aq|refine aN ?_ ?_|exact trivial)
    all_goals first | exact dd | skip
    refine loopP E_ok [3, 4, 7, 8] (fun g : G111 => [(2, match g.2.1 with | true => .slice 7 2 0 g.2.2.1.length g.2.2.2.1 | false => .snil), (9, .int .i64 (t.dl d + (g.1 : Int)))]) (fun g _ => H111s t p d cb cd L g.2.1 g.2.2.1 g.2.2.2.1 g.2.2.2.2.1 g.2.2.2.2.2)
     (fun g => Inv2 t r L false W0 ka g.1 g.2.1 g.2.2.1 g.2.2.2.1) (fun g => cntB t L.length - g.1) (0, false, W, cO, cp, cq) ⟨Nat.zero_le _, by rw [partI_zero, List.append_nil]; exact hW, i1, fun h => h, i3⟩ ?_ ?_
    ·refine ent_tau [0, 1, 2, 3, 4, 5, 6, 7, 8] ⟨by (repeat' first|exact fp|refine aN ?_ ?_), ?_, rfl⟩
     (repeat' first|exact tm|refine aN ?_ ?_)
     exact congrArg (SV.int .i64) (sl.trans (by simp))
    rintro ⟨kb, s2, W2, cO2, cp2, cq2⟩ ⟨hb, hW2, j1, j2, j3⟩
    dsimp only at hb hW2 j1 j2 j3
    cases s2 with
    | true =>
     refine And.intro ?_ (And.intro (fun hly => ?_) (fun hly => ?_))
     ·(repeat' first|exact aq|refine aN ?_ ?_|exact trivial)
      all_goals first | exact dd | skip
     ·have hly' : kb < cntB t L.length := by
       have := of_decide_eq_true hly
       rw [sh] at this
       omega
      (repeat' first|exact aq|refine aN ?_ ?_|exact trivial)
      refine drawN E_ok [5, 6] ?_
      refine node_ent ?_ rfl (st111s t p d (t.bl d + (ka : Int)) (t.dl d + (kb : Int)) cb cd (fun k => (ofL L k).1) (fun k => (ofL L k).2) _ W2.length cO2 (2 * W2.length) cp2 cq2 (fun _ => t.n) (pgT W2) (by omega) (KD_good _ _ _) (KD_put fun _ _ s h => by obtain ⟨_, _, D⟩ := s; cases D <;> exact h) ?_)
      ·refine ent_tau [0, 1, 2, 3, 4, 5, 6, 7, 8] ⟨by (repeat' first|exact fp|refine aN ?_ ?_), by (repeat' first|exact tm|refine aN ?_ ?_), rfl⟩
      intro c1 c2 c3 c4 h1 h2 h3 h4
      have hab : (t.bl d + (ka : Int) ≤ t.bh d ∧ t.dl d + (kb : Int) ≤ t.dh d) := by omega
      obtain ⟨a, ea⟩ : ∃ a : Int, t.bl d + (ka : Int) = a := ⟨_, rfl⟩
      obtain ⟨b, eb⟩ : ∃ b : Int, t.dl d + (kb : Int) = b := ⟨_, rfl⟩
      have hday2 : Day (0 + d + 1) (ofL (L ++ [(t.bl d + (ka : Int), t.dl d + (kb : Int))])) := day_app hL hday ⟨by omega, by omega⟩ ⟨by omega, by omega⟩
      have c115 := t115 t (by omega) ⟨true, c2, true, c4⟩ (ofL (L ++ [(t.bl d + (ka : Int), t.dl d + (kb : Int))])) (0 + d) (by omega) hday2
      have hfx : fitsX t (ofL (L ++ [(t.bl d + (ka : Int), t.dl d + (kb : Int))])) (0 + d) = t.fits L (t.bl L.length + (ka : Int), t.dl L.length + (kb : Int)) := by
       rw [Nat.zero_add, ← hL]
       exact fitsX_is t L _
      obtain ⟨q, hq⟩ : ∃ q, t.fits L (t.bl L.length + (ka : Int), t.dl L.length + (kb : Int)) = q := ⟨_, rfl⟩
      rw [hfx, hq] at c115
      have hpl := part_all (W0 := W0) hlx' (show kb + 1 ≤ cntB t L.length from hly') hlen
      rw [partI_succ, ← List.append_assoc, ← hW2] at hpl
      cases q with
      | true =>
       have eP : W2 ++ t.go r (L ++ [(t.bl d + (ka : Int), t.dl d + (kb : Int))]) = W0 ++ partI (goA t r L) (t.bl L.length) ka ++ partI (goP1 t r L (t.bl L.length + (ka : Nat))) (t.dl L.length) (kb + 1) := by
        rw [partI_succ, goP1_yes hq, hW2, List.append_assoc, hL]
       rw [goP1_yes hq, hL] at hpl
       (repeat' first|exact aq|refine aN ?_ ?_|exact trivial)
       refine CallP.argsD (args' := [.agg [.int .i64 t.huts, .osl t.b 0 5 t.n t.cap], .agg [.osl true 12 1 (0 + d + 1) c2, .osl true 16 1 (0 + d + 1) c4]]) (fun η => by simp [denL, den]) ?_
       refine c115.use [0, 12, 16] ?_ ?_ rfl
       rotate_left
       ·(repeat' first|exact fp|refine aN ?_ ?_)
        all_goals first | exact rowX1 hL (by omega) | exact rowX2 hL (by omega)
       all_goals (repeat' first|exact aq|refine aN ?_ ?_|exact trivial)
       all_goals first | exact dd | skip
       all_goals intro hx
       all_goals first | exact absurd hx (by decide) | (cases hx; done) | skip
       (repeat' first|exact aq|refine aN ?_ ?_|exact trivial)
       refine CallP.frameH (ih (0 + d + 1) (by omega) (by omega) c2 c4 (L ++ [(t.bl d + (ka : Int), t.dl d + (kb : Int))]) true W2 cO2 cp2 cq2 (by simp [hL]) ⟨h2.1, h2.2⟩ ⟨h4.1, h4.2⟩ j1 j3 hday2 hpl) [0, 12, 16, 7, 8] ?_ rfl ?_
       ·(repeat' first|exact fp|refine aN ?_ ?_)
        all_goals first | exact rowX1 hL (by omega) | exact rowX2 hL (by omega)
       rintro ce h' ⟨s3, cO3, cp3, cq3, k1, k2, k3, rfl, rfl⟩
       cases s3 with
       | true =>
        refine ⟨rfl, ?_⟩
        (repeat' first|exact aq|refine aN ?_ ?_|exact trivial)
        all_goals first | exact dd | exact dp3 | skip
        refine ⟨(kb + 1, true, W2 ++ t.go r (L ++ [(t.bl d + (ka : Int), t.dl d + (kb : Int))]), cO3, cp3, cq3), ⟨hly', eP, fun h => Bool.noConfusion h, fun _ => rfl, k3⟩, by simp only; omega, ?_⟩
        refine ent_tau [0, 1, 2, 3, 4, 5, 6, 18, 19] ⟨by (repeat' first|exact fp|refine aN ?_ ?_), ?_, rfl⟩
        (repeat' first|exact tm|refine aN ?_ ?_)
        exact congrArg (SV.int .i64) (show t.dl d + ((kb : Nat) : Int) + 1 = t.dl d + ((kb + 1 : Nat) : Int) by omega)
       | false =>
        exact absurd (k1 rfl) (by decide)
      | false =>
       (repeat' first|exact aq|refine aN ?_ ?_|exact trivial)
       refine CallP.argsD (args' := [.agg [.int .i64 t.huts, .osl t.b 0 5 t.n t.cap], .agg [.osl true 12 1 (0 + d + 1) c2, .osl true 16 1 (0 + d + 1) c4]]) (fun η => by simp [denL, den]) ?_
       refine c115.use [0, 12, 16] ?_ ?_ rfl
       rotate_left
       ·(repeat' first|exact fp|refine aN ?_ ?_)
        all_goals first | exact rowX1 hL (by omega) | exact rowX2 hL (by omega)
       all_goals (repeat' first|exact aq|refine aN ?_ ?_|exact trivial)
       all_goals first | exact dd | skip
       all_goals intro hx
       all_goals first | exact absurd hx (by decide) | (cases hx; done) | skip
       (repeat' first|exact aq|refine aN ?_ ?_|exact trivial)
       all_goals first | exact dd | exact dp3 | skip
       refine ⟨(kb + 1, true, W2, cO2, cp2, cq2), ⟨hly', by rw [partI_succ, goP1_no hq, List.append_nil]; exact hW2, j1, j2, j3⟩, by simp only; omega, ?_⟩
       refine ent_tau [0, 1, 2, 3, 4, 5, 6, 7, 8] ⟨by (repeat' first|exact fp|refine aN ?_ ?_), ?_, rfl⟩
       (repeat' first|exact tm|refine aN ?_ ?_)
       exact congrArg (SV.int .i64) (show t.dl d + ((kb : Nat) : Int) + 1 = t.dl d + ((kb + 1 : Nat) : Int) by omega)
     ·have hz : kb = cntB t L.length := by
       have := of_decide_eq_false hly
       rw [sh] at this
       dsimp only at this
       omega
      (repeat' first|exact aq|refine aN ?_ ?_|exact trivial)
      all_goals first | exact dd | exact dp3 | skip
      refine ⟨(ka + 1, true, W2, cO2, cp2, cq2), ⟨hlx', by rw [partI_succ]; subst hz; rw [hW2, List.append_assoc]; rfl, j1, fun _ => rfl, j3⟩, by simp only; omega, ?_⟩
      refine ent_tau [0, 1, 2, 3, 4, 5, 6, 7, 8] ⟨by (repeat' first|exact fp|refine aN ?_ ?_), ?_, rfl⟩
      (repeat' first|exact tm|refine aN ?_ ?_)
      exact congrArg (SV.int .i64) (show t.bl d + ((ka : Nat) : Int) + 1 = t.bl d + ((ka + 1 : Nat) : Int) by omega)
    | false =>
     refine And.intro ?_ (And.intro (fun hly => ?_) (fun hly => ?_))
     ·(repeat' first|exact aq|refine aN ?_ ?_|exact trivial)
      all_goals first | exact dd | skip
     ·have hly' : kb < cntB t L.length := by
       have := of_decide_eq_true hly
       rw [sh] at this
       omega
      (repeat' first|exact aq|refine aN ?_ ?_|exact trivial)
      refine drawN E_ok [5, 6] ?_
      refine node_ent ?_ rfl (st111 t p d (t.bl d + (ka : Int)) (t.dl d + (kb : Int)) cb cd (fun k => (ofL L k).1) (fun k => (ofL L k).2) _ (by omega) (KD_good _ _ _) (KD_put fun _ _ s h => by obtain ⟨_, _, D⟩ := s; cases D <;> exact h) ?_)
      ·refine ent_tau [0, 1, 2, 3, 4, 5, 6, 7, 8] ⟨by (repeat' first|exact fp|refine aN ?_ ?_), by (repeat' first|exact tm|refine aN ?_ ?_), rfl⟩
      intro c1 c2 c3 c4 h1 h2 h3 h4
      have hab : (t.bl d + (ka : Int) ≤ t.bh d ∧ t.dl d + (kb : Int) ≤ t.dh d) := by omega
      obtain ⟨a, ea⟩ : ∃ a : Int, t.bl d + (ka : Int) = a := ⟨_, rfl⟩
      obtain ⟨b, eb⟩ : ∃ b : Int, t.dl d + (kb : Int) = b := ⟨_, rfl⟩
      have hday2 : Day (0 + d + 1) (ofL (L ++ [(t.bl d + (ka : Int), t.dl d + (kb : Int))])) := day_app hL hday ⟨by omega, by omega⟩ ⟨by omega, by omega⟩
      have c115 := t115 t (by omega) ⟨true, c2, true, c4⟩ (ofL (L ++ [(t.bl d + (ka : Int), t.dl d + (kb : Int))])) (0 + d) (by omega) hday2
      have hfx : fitsX t (ofL (L ++ [(t.bl d + (ka : Int), t.dl d + (kb : Int))])) (0 + d) = t.fits L (t.bl L.length + (ka : Int), t.dl L.length + (kb : Int)) := by
       rw [Nat.zero_add, ← hL]
       exact fitsX_is t L _
      obtain ⟨q, hq⟩ : ∃ q, t.fits L (t.bl L.length + (ka : Int), t.dl L.length + (kb : Int)) = q := ⟨_, rfl⟩
      rw [hfx, hq] at c115
      have hpl := part_all (W0 := W0) hlx' (show kb + 1 ≤ cntB t L.length from hly') hlen
      rw [partI_succ, ← List.append_assoc, ← hW2] at hpl
      cases q with
      | true =>
       have eP : W2 ++ t.go r (L ++ [(t.bl d + (ka : Int), t.dl d + (kb : Int))]) = W0 ++ partI (goA t r L) (t.bl L.length) ka ++ partI (goP1 t r L (t.bl L.length + (ka : Nat))) (t.dl L.length) (kb + 1) := by
        rw [partI_succ, goP1_yes hq, hW2, List.append_assoc, hL]
       rw [goP1_yes hq, hL] at hpl
       (repeat' first|exact aq|refine aN ?_ ?_|exact trivial)
       refine CallP.argsD (args' := [.agg [.int .i64 t.huts, .osl t.b 0 5 t.n t.cap], .agg [.osl true 12 1 (0 + d + 1) c2, .osl true 16 1 (0 + d + 1) c4]]) (fun η => by simp [denL, den]) ?_
       refine c115.use [0, 12, 16] ?_ ?_ rfl
       rotate_left
       ·(repeat' first|exact fp|refine aN ?_ ?_)
        all_goals first | exact rowX1 hL (by omega) | exact rowX2 hL (by omega)
       all_goals (repeat' first|exact aq|refine aN ?_ ?_|exact trivial)
       all_goals first | exact dd | skip
       all_goals intro hx
       all_goals first | exact absurd hx (by decide) | (cases hx; done) | skip
       (repeat' first|exact aq|refine aN ?_ ?_|exact trivial)
       refine CallP.frameH (ih (0 + d + 1) (by omega) (by omega) c2 c4 (L ++ [(t.bl d + (ka : Int), t.dl d + (kb : Int))]) false W2 cO2 cp2 cq2 (by simp [hL]) ⟨h2.1, h2.2⟩ ⟨h4.1, h4.2⟩ j1 j3 hday2 hpl) [0, 12, 16, 7, 8] ?_ rfl ?_
       ·(repeat' first|exact fp|refine aN ?_ ?_)
        all_goals first | exact rowX1 hL (by omega) | exact rowX2 hL (by omega)
       rintro ce h' ⟨s3, cO3, cp3, cq3, k1, k2, k3, rfl, rfl⟩
       cases s3 with
       | true =>
        refine ⟨rfl, ?_⟩
        (repeat' first|exact aq|refine aN ?_ ?_|exact trivial)
        all_goals first | exact dd | exact dp3 | skip
        refine ⟨(kb + 1, true, W2 ++ t.go r (L ++ [(t.bl d + (ka : Int), t.dl d + (kb : Int))]), cO3, cp3, cq3), ⟨hly', eP, fun h => Bool.noConfusion h, fun _ => rfl, k3⟩, by simp only; omega, ?_⟩
        refine ent_tau [0, 1, 2, 3, 4, 5, 6, 18, 19] ⟨by (repeat' first|exact fp|refine aN ?_ ?_), ?_, rfl⟩
        (repeat' first|exact tm|refine aN ?_ ?_)
        exact congrArg (SV.int .i64) (show t.dl d + ((kb : Nat) : Int) + 1 = t.dl d + ((kb + 1 : Nat) : Int) by omega)
       | false =>
        refine ⟨rfl, ?_⟩
        (repeat' first|exact aq|refine aN ?_ ?_|exact trivial)
        all_goals first | exact dd | exact dp3 | skip
        refine ⟨(kb + 1, false, W2 ++ t.go r (L ++ [(t.bl d + (ka : Int), t.dl d + (kb : Int))]), cO3, cp3, cq3), ⟨hly', eP, k2, fun h => absurd h (by decide), fun h => Bool.noConfusion h⟩, by simp only; omega, ?_⟩
        refine ent_tau [0, 1, 2, 3, 4, 5, 6, 7, 8] ⟨by (repeat' first|exact fp|refine aN ?_ ?_), ?_, rfl⟩
        (repeat' first|exact tm|refine aN ?_ ?_)
        exact congrArg (SV.int .i64) (show t.dl d + ((kb : Nat) : Int) + 1 = t.dl d + ((kb + 1 : Nat) : Int) by omega)
      | false =>
       (repeat' first|exact aq|refine aN ?_ ?_|exact trivial)
       refine CallP.argsD (args' := [.agg [.int .i64 t.huts, .osl t.b 0 5 t.n t.cap], .agg [.osl true 12 1 (0 + d + 1) c2, .osl true 16 1 (0 + d + 1) c4]]) (fun η => by simp [denL, den]) ?_
       refine c115.use [0, 12, 16] ?_ ?_ rfl
       rotate_left
       ·(repeat' first|exact fp|refine aN ?_ ?_)
        all_goals first | exact rowX1 hL (by omega) | exact rowX2 hL (by omega)
       all_goals (repeat' first|exact aq|refine aN ?_ ?_|exact trivial)
       all_goals first | exact dd | skip
       all_goals intro hx
       all_goals first | exact absurd hx (by decide) | (cases hx; done) | skip
       (repeat' first|exact aq|refine aN ?_ ?_|exact trivial)
       all_goals first | exact dd | exact dp3 | skip
       refine ⟨(kb + 1, false, W2, cO2, cp2, cq2), ⟨hly', by rw [partI_succ, goP1_no hq, List.append_nil]; exact hW2, j1, j2, j3⟩, by simp only; omega, ?_⟩
       refine ent_tau [0, 1, 2, 3, 4, 5, 6, 7, 8] ⟨by (repeat' first|exact fp|refine aN ?_ ?_), ?_, rfl⟩
       (repeat' first|exact tm|refine aN ?_ ?_)
       exact congrArg (SV.int .i64) (show t.dl d + ((kb : Nat) : Int) + 1 = t.dl d + ((kb + 1 : Nat) : Int) by omega)
     ·have hz : kb = cntB t L.length := by
       have := of_decide_eq_false hly
       rw [sh] at this
       dsimp only at this
       omega
      (repeat' first|exact aq|refine aN ?_ ?_|exact trivial)
      all_goals first | exact dd | exact dp3 | skip
      refine ⟨(ka + 1, false, W2, cO2, cp2, cq2), ⟨hlx', by rw [partI_succ]; subst hz; rw [hW2, List.append_assoc]; rfl, j1, fun h => absurd h (by decide), j3⟩, by simp only; omega, ?_⟩
      refine ent_tau [0, 1, 2, 3, 4, 5, 6, 7, 8] ⟨by (repeat' first|exact fp|refine aN ?_ ?_), ?_, rfl⟩
      (repeat' first|exact tm|refine aN ?_ ?_)
      exact congrArg (SV.int .i64) (show t.bl d + ((ka : Nat) : Int) + 1 = t.bl d + ((ka + 1 : Nat) : Int) by omega)
   ·have hz : ka = cntA t L.length := by
     have := of_decide_eq_false hlx
     rw [rh] at this
     dsimp only at this
     omega
    have hWf : W0 ++ t.go (r + 1) L = W := by rw [go_part, hW, hz]
    (repeat' first|exact aq|refine aN ?_ ?_|exact trivial)
    refine codeP_XK E_ok 10 ?_
    (repeat' first|exact aq|refine aN ?_ ?_|exact trivial)
    refine ⟨.ret .snil, [some (.roa 5 t.n (TF t)), some .dead, some .dead, some .dead, some .dead], ?_, ?_⟩
    ·rw [hWf]
     exact ⟨false, cO, cp, cq, fun h => absurd h (by decide), i1, i3, rfl, rfl⟩
    ·exact ent_tau [0, 1, 2, 3, 4] ⟨by (repeat' first|exact fp|refine aN ?_ ?_), by (repeat' first|exact tm|refine aN ?_ ?_), rfl⟩
end Go.Proofs.Ytioajogaghgipaa
/-
 Contract of the document: all truths.
-/
namespace Go.Proofs.Ytioajogaghgipaa
open Go Go.Sy Tic
set_option linter.unusedSimpArgs false
set_option maxRecDepth 100000
set_option maxHeartbeats 4000000
attribute [local irreducible] CallP CodeP Ent YieldP
set_option maxHeartbeats 16000000
-- fast: YtioajogaghgipaaDd

theorem entNil {n : Nat} {T : Tm} {H : SHeap} {D : List SV} {o sz M cap np : Nat} {go go' : Nat → List SV} (hO : H[o]? = some (some (.arr sz M cap go))) (len : Nat → Nat) (get : Nat → Nat → Int) (hl : ∀ k, k < np → len k = 0)
  (hgo : ∀ η : Nam, η H.length = some (0, 0) → ∀ k, k < M → denL η (go k) = denL η (go' k)) :
  Ent n ⟨T, H, D⟩ ⟨T, (H.set o (some (.arr sz M cap go'))) ++ [some (.pool true np len get)], D⟩ := by
 unfold Ent
 intro η φ w0 Ef w a hn hs hT hD
 have no : ∀ F b, ¬ (SObj.pool true np len get).foot (0, 0) F b := fun F b hb => by
  obtain ⟨k, hk⟩ := hb
  rw [padr_zero] at hk
  cases hk
 obtain ⟨hle, s1⟩ := hs.plus (o' := .pool true np len get) (a' := (0, 0)) (fun _ => False) (fun k hk => .inl ⟨padr_zero k, hl k hk⟩) (fun b hb => (no _ b hb).elim) (fun _ b hb => (no _ b hb).elim) (fun _ _ _ _ b _ _ hb => (no _ b hb).elim) (fun _ _ _ b _ _ _ _ hb => (no _ b hb).elim)
 have lo : o < H.length := lt_of_get hO
 have hO3 : (H ++ [some (.pool true np len get)])[o]? = some (some (.arr sz M cap go)) := by
  rw [List.getElem?_append_left lo]
  exact hO
 have s4 := s1.less (o' := .arr sz M cap go') hO3 (fun _ _ hb => hb) (fun _ => rfl) (fun ad hh => by
  obtain ⟨h0, Ta, ca, h1, h2, h3, h4⟩ := hh
  refine ⟨h0, Ta, ca, h1, h2, h3, fun k hk => ?_⟩
  rw [← hgo _ (Nam.put_same η _ _) k (by omega)]
  exact h4 k hk)
 rw [List.set_append_left _ _ lo] at s4
 refine ⟨_, _, pin_put hn _, ?_, s4, hT.mono hle, hD.mono hle⟩
 simp only [List.length_append, List.length_singleton, List.length_set]
 exact Nat.le_trans hn (Nat.le_succ _)
theorem one1P {get : Nat → List SV} (h : allOne (get 0) = true) : allOneN get 0 1 := fun k hk => by
 have h0 : k = 0 := Nat.lt_one_iff.1 hk
 subst h0
 exact h
theorem sel_push {σ : Nat → Nat} {n : Nat} {a a' b : Nat → List SV} {c : List SV} (h1 : ∀ k, k < n → a k = renL σ (a' k)) (h2 : b 0 = renL σ c) : ∀ k, k < n + 1 → selL (decide (k < n)) (a k) (b (0 + (k - n))) = renL σ (if k < n then a' k else c) := fun k hk => by
 rcases Nat.lt_succ_iff_lt_or_eq.1 hk with h | rfl
 ·rw [decide_eq_true h, selL_true, if_pos h, h1 k h]
 ·rw [decide_eq_false (Nat.lt_irrefl _), selL_false, if_neg (Nat.lt_irrefl _), Nat.sub_self, h2]
theorem push111z {t : TK} {N cb cd c : Nat} {L : List (Int × Int)} {go : Nat → List SV} (h2 : go 0 = [.slice 1 1 0 N cb, .slice 2 1 0 N cd]) :
  Ent 5 ⟨[some (none, .slice 5 2 0 1 c)], [some (.roa 5 t.n (TF t)), some (.arr 1 N cb (XB (ofL L))), some (.arr 1 N cd (XD (ofL L))), some .dead, some .dead, some (.arr 2 1 c go)], []⟩
   ⟨[some (none, .slice 5 2 0 1 c)], [some (.roa 5 t.n (TF t)), some .dead, some .dead, some .dead, some .dead, some (.arr 2 1 c (rwsT 6 N (fun _ => cb) fun _ => cd)), some (poolT N [L])], []⟩ := by
 refine Ent.trans (entPool (fun _ => N) (pgT [L])) ?_
 have s1 := entPush (n := 5) (T := [some (none, .slice 5 2 0 1 c)]) (D := []) (H := [some (.roa 5 t.n (TF t)), some (.arr 1 N cb (XB (ofL L))), some (.arr 1 N cd (XD (ofL L))), some .dead, some .dead, some (.arr 2 1 c go), some (.pool true 0 (fun _ => N) (pgT [L]))]) (i := 1) (j := 6) (o := 5) (np := 0) (m := N) (cap := cb)
  (go' := fun _ => [.row 7 0 N cb, .slice 2 1 0 N cd]) (len' := fun _ => N) (get' := pgT [L]) rfl rfl rfl (by decide)
  (fun q _ => rfl) (fun k _ => rfl) (Nat.le_refl _) (fun k hk q _ => rfl)
  (fun η hp k hk => by
   obtain rfl : k = 0 := by omega
   rw [h2]
   simp only [denL]
   rw [hp.new]
   rfl)
 have s2 := entPush (n := 5) (T := [some (none, .slice 5 2 0 1 c)]) (D := []) (H := [some (.roa 5 t.n (TF t)), some .dead, some (.arr 1 N cd (XD (ofL L))), some .dead, some .dead, some (.arr 2 1 c (fun _ => [.row 7 0 N cb, .slice 2 1 0 N cd])), some .dead, some (.pool true (0 + 1) (fun _ => N) (pgT [L]))]) (i := 2) (j := 7) (o := 5) (np := 0 + 1) (m := N) (cap := cd)
  (go' := rwsT 8 N (fun _ => cb) fun _ => cd) (len' := fun _ => N) (get' := pgT [L]) rfl rfl rfl (by decide)
  (fun q _ => rfl) (fun k _ => rfl) (Nat.le_refl _) (fun k hk q _ => rfl)
  (fun η hp k hk => by
   obtain rfl : k = 0 := by omega
   simp only [rwsT, denL]
   rw [hp.old (by omega), hp.new]
   rfl)
 refine Ent.trans s1 (Ent.trans s2 ?_)
 exact ent_tau [0, 1, 2, 3, 4, 5, 8] ⟨by (repeat' first|exact fp|refine aN ?_ ?_), by (repeat' first|exact tm|refine aN ?_ ?_), rfl⟩
theorem one1P' {P : Nat → Prop} (h : P 0) : ∀ k, k < 1 → P k := fun k hk => by
 obtain rfl : k = 0 := Nat.lt_one_iff.1 hk
 exact h
theorem go_zero (t : TK) (L : List (Int × Int)) : t.go 0 L = [L] := rfl
theorem c111 {t : TK} (hv : t.Valid) : ∀ r, C111 t r
 | 0 => by
  intro d hd hd1 cb cd L s W cO cp cq hL hcb hcd hs hc hday hlen
  obtain rfl : d = t.n := by omega
  rw [go_zero] at hlen ⊢
  have hlen' : W.length + 1 ≤ 1000000 := by simpa using hlen
  have el : (W ++ [L]).length = W.length + 1 := by simp
  cases s with
  | true =>
   refine callK (E := E) E_ok Try.func111 rfl ?_
   refine And.intro ?_ (And.intro (fun hx => ?_) (fun hx => ?_))
   ·(repeat' first|exact aq|refine aN ?_ ?_|exact trivial)
   ·(repeat' first|exact aq|refine aN ?_ ?_|exact trivial)
    all_goals first | exact Nat.le_refl _ | exact (hc rfl).2 | exact (hc rfl).1 | exact one1P rfl | (show _ * 48 ≤ 140737488355328; omega) | skip
    intro c hc1 hc2
    (repeat' first|exact aq|refine aN ?_ ?_|exact trivial)
    refine ⟨.ret (.slice 5 2 0 (W.length + 1) c), [some (.roa 5 t.n (TF t)), some .dead, some .dead, some .dead, some .dead, some (.arr 2 (W.length + 1) c (rwsT 6 t.n (fun k => if k < W.length then cp k else cb) fun k => if k < W.length then cq k else cd)), some (poolT t.n (W ++ [L]))], ⟨true, c, _, _, fun _ => rfl, fun h => Bool.noConfusion h, fun _ => by rw [el]; exact ⟨hc1, hc2⟩, by rw [el], by rw [el]⟩, ?_⟩
    refine Ent.trans ?_ (push111 (M := W.length) (c := c) (go := fun k => if k < W.length then rwsT 4 t.n cp cq k else [.slice 1 1 0 t.n cb, .slice 2 1 0 t.n cd]) rfl (fun k hk => if_pos hk) (if_neg (Nat.lt_irrefl _)))
    refine ent_tau [0, 1, 2, 3, 4, 8] ⟨?_, by (repeat' first|exact tm|refine aN ?_ ?_), rfl⟩
    (repeat' first|exact fp|refine aN ?_ ?_)
    exact sel_push (fun _ _ => rfl) rfl
   ·exact absurd rfl (of_decide_eq_false hx)
  | false =>
   obtain rfl := hs rfl
   refine callK (E := E) E_ok Try.func111 rfl ?_
   refine And.intro ?_ (And.intro (fun hx => ?_) (fun hx => ?_))
   ·(repeat' first|exact aq|refine aN ?_ ?_|exact trivial)
   ·(repeat' first|exact aq|refine aN ?_ ?_|exact trivial)
    all_goals first | exact Nat.le_refl _ | decide | exact one1P rfl | (show 1 * 48 ≤ 140737488355328; omega) | skip
    intro c hc1 hc2
    (repeat' first|exact aq|refine aN ?_ ?_|exact trivial)
    refine ⟨.ret (.slice 5 2 0 1 c), [some (.roa 5 t.n (TF t)), some .dead, some .dead, some .dead, some .dead, some (.arr 2 1 c (rwsT 6 t.n (fun _ => cb) fun _ => cd)), some (poolT t.n [L])], ⟨true, c, _, _, fun _ => rfl, fun h => Bool.noConfusion h, fun _ => ⟨hc1, hc2⟩, rfl, rfl⟩, ?_⟩
    refine Ent.trans ?_ (push111z (go := fun _ => [.slice 1 1 0 t.n cb, .slice 2 1 0 t.n cd]) rfl)
    refine ent_tau [0, 1, 2, 3, 4, 8] ⟨?_, by (repeat' first|exact tm|refine aN ?_ ?_), rfl⟩
    (repeat' first|exact fp|refine aN ?_ ?_)
    exact one1P' rfl
   ·exact absurd rfl (of_decide_eq_false hx)
 | r + 1 => by
  intro d hd hd1 cb cd L s W cO cp cq hL hcb hcd hs hc hday hlen
  have hn5 := hv.2.1
  have sg := seg111 hv (c111 hv r) true d hd cb cd (fun h => Bool.noConfusion h) L hL s W cO cp cq hs hc hday hlen
  cases s with
  | true =>
   refine callKK (E := E) E_ok 3 Try.func111 rfl ?_
   refine And.intro ?_ (And.intro (fun hx => ?_) (fun hx => ?_))
   ·(repeat' first|exact aq|refine aN ?_ ?_|exact trivial)
   ·exact absurd (of_decide_eq_true hx) (by omega)
   ·(repeat' first|exact aq|refine aN ?_ ?_|exact trivial)
    refine CodeP.pre ?_ sg
    refine Ent.trans (entMove (i := 3) (T' := mkT [] [(2, .slice 7 2 0 W.length cO), (3, .ptr 5 0), (4, .ptr 6 0), (7, .int .i64 d)] 0 (List.replicate 82 none)) rfl rfl ?_) ?_
    ·intro η e
     (repeat' (first | exact trivial | exact rfl | exact (congrArg (fun o : Option (Nat × Nat) => o.map fun a => Value.slice (some ⟨a.1, a.2 + 0 * 2, none⟩) W.length cO) e).symm | refine And.intro ?_ ?_))
    refine Ent.trans (entMoveG (j := 4) (o := 7) (go' := rwsT 8 t.n cp cq) rfl rfl rfl (by decide) ?_) ?_
    ·intro η e k hk
     simp only [rwsT, denL, den]
     rw [← e]
     rfl
    refine Ent.trans (entCells (i := 6) (cs := [.slice 1 1 0 d cb, .slice 2 1 0 d cd]) (cs' := [.osl true 1 1 d cb, .osl true 2 1 d cd]) rfl (fun η => by simp [denL, den])) ?_
    exact ent_tau [0, 1, 2, 3, 4, 5, 6, 7, 8] ⟨by (repeat' first|exact fp|refine aN ?_ ?_), by (repeat' first|exact tm|refine aN ?_ ?_), rfl⟩
  | false =>
   refine callKK (E := E) E_ok 3 Try.func111 rfl ?_
   refine And.intro ?_ (And.intro (fun hx => ?_) (fun hx => ?_))
   ·(repeat' first|exact aq|refine aN ?_ ?_|exact trivial)
   ·exact absurd (of_decide_eq_true hx) (by omega)
   ·(repeat' first|exact aq|refine aN ?_ ?_|exact trivial)
    refine CodeP.pre ?_ sg
    refine Ent.trans (entCells (i := 6) (cs := [.slice 1 1 0 d cb, .slice 2 1 0 d cd]) (cs' := [.osl true 1 1 d cb, .osl true 2 1 d cd]) rfl (fun η => by simp [denL, den])) ?_
    exact ent_tau [0, 1, 2, 3, 4, 5, 6, 3, 4] ⟨by (repeat' first|exact fp|refine aN ?_ ?_), by (repeat' first|exact tm|refine aN ?_ ?_), rfl⟩
theorem t111z {t : TK} (hv : t.Valid) (h0 : 1 ≤ t.n) (hlen : (t.trl).length ≤ 1000000) :
  CallP Try.prog 111 [TA t, .agg [.osl false 1 1 0 0, .osl false 2 1 0 0], .snil] [some (.roa 5 t.n (TF t)), some (.roa 1 0 (XB (ofL []))), some (.roa 1 0 (XD (ofL []))), some .dead, some .dead] (K111 t false t.trl) := by
 obtain ⟨r, hr⟩ : ∃ r, t.n = r + 1 := ⟨t.n - 1, by omega⟩
 have e : t.trl = t.go (r + 1) [] := by unfold TK.trl; rw [hr]
 rw [e] at hlen ⊢
 have sg := seg111 hv (c111 hv r) false 0 (by omega) 0 0 (fun _ => ⟨rfl, rfl, rfl⟩) [] rfl false [] 0 (fun _ => 0) (fun _ => 0) (fun _ => rfl) (fun h => Bool.noConfusion h) (fun i hi => absurd hi (Nat.not_lt_zero i)) hlen
 rw [List.nil_append] at sg
 refine callKK (E := E) E_ok 3 Try.func111 rfl ?_
 refine And.intro ?_ (And.intro (fun hx => ?_) (fun hx => ?_))
 ·(repeat' first|exact aq|refine aN ?_ ?_|exact trivial)
 ·exact absurd (of_decide_eq_true hx) (by omega)
 ·(repeat' first|exact aq|refine aN ?_ ?_|exact trivial)
  refine CodeP.pre ?_ sg
  exact ent_tau [0, 1, 2, 3, 4, 5, 6, 3, 4] ⟨by (repeat' first|exact fp|refine aN ?_ ?_), by (repeat' first|exact tm|refine aN ?_ ?_), rfl⟩
end Go.Proofs.Ytioajogaghgipaa
