/-
  Parts: R0, Ra, R1.
-/
import Derived.Test.YtioajogaghgipaaN22
set_option linter.unusedVariables false
/-
 The document's truths: what is needed to go through a region by nodes.
-/
namespace Go.Proofs.Ytioajogaghgipaa
open Go Go.Sy Tic
set_option linter.unusedSimpArgs false
set_option maxRecDepth 100000
set_option maxHeartbeats 4000000
attribute [local irreducible] CallP CodeP Ent YieldP
-- fast: YtioajogaghgipaaDd

def opsOf (id : Nat) : Code → Option (Array Oper)
 | .region n ops _ => bif Nat.beq n id then some ops else none
 | .seq a b => match opsOf id a with
  | some x => some x
  | none => opsOf id b
 | .cond _ a b => match opsOf id a with
  | some x => some x
  | none => opsOf id b
 | .block _ a => opsOf id a
 | .loop a => opsOf id a
 | _ => none
def opsF (id : Nat) (f : Func) : List Oper := match f.body with
 | some c => match opsOf id c with
  | some x => x.toList
  | none => []
 | none => []
def updD (f : Nat → Int) (d : Nat) (v : Int) : Nat → Int := fun i => if i = d then v else f i
theorem one1R {get : Nat → List SV} (h : allOne (get 0) = true) : allOneN get 0 1 := fun k hk => by
 obtain rfl : k = 0 := by omega
 exact h
theorem rowR0 {f : Nat → List SV} {g : Nat → List SV} {n : Nat} : ∀ k, k < n → selL (decide (k < 0)) (g k) (f (0 + (k - 0))) = f k := fun k _ => by
 rw [decide_eq_false (Nat.not_lt_zero k), selL_false, Nat.sub_zero, Nat.zero_add]
theorem rowR2 {b : Nat → List SV} {v : SV} (h : b 0 = [v]) : ∀ k, k < 1 → b k = [v] := fun k hk => by
 obtain rfl : k = 0 := by omega
 exact h
theorem rowR1 {f : Nat → Int} {d : Nat} {a : Int} : ∀ k, k < 0 + d + 1 → selL (decide (k < 0 + d)) (LF f k) (getOf 1 (splice (repL 1 [SV.int .i64 0]) (0 * 1) [SV.int .i64 a]) (0 + (k - (0 + d)))) = LF (updD f d a) k := fun k hk => by
 unfold LF updD
 by_cases c : k < 0 + d
 ·rw [decide_eq_true c, selL_true, if_neg (by omega)]
 ·obtain rfl : k = d := by omega
  rw [decide_eq_false c, selL_false, if_pos rfl, show 0 + (k - (0 + k)) = 0 by omega]
  rfl
theorem rowR1b {f : Nat → Int} {d : Nat} {a : Int} : ∀ k, k < 0 + d + 1 → selL (decide (k < 0 + d)) (LF f k) ((fun _ => [SV.int .i64 a]) (0 + (k - (0 + d)))) = LF (updD f d a) k := fun k hk => by
 unfold LF updD
 by_cases c : k < 0 + d
 ·rw [decide_eq_true c, selL_true, if_neg (by omega)]
 ·obtain rfl : k = d := by omega
  rw [decide_eq_false c, selL_false, if_pos rfl]
def PutK (K : KS) : Prop := ∀ (d : Option Nat) (v : SV) (s : St) (ob : List Prop), K (.panic v) s ob → K (.panic v) ⟨putT s.T d none, s.H, s.D⟩ ob
end Go.Proofs.Ytioajogaghgipaa
/-
 The document's truths: a region that makes two lists, by nodes: what its states look like.
-/
namespace Go.Proofs.Ytioajogaghgipaa
open Go Go.Sy Tic
set_option linter.unusedSimpArgs false
set_option maxRecDepth 100000
set_option maxHeartbeats 4000000
attribute [local irreducible] CallP CodeP Ent YieldP
set_option maxHeartbeats 16000000
-- fast: YtioajogaghgipaaDd

structure NV where
 t : TK
 p : Bool
 d : Nat
 a : Int
 b : Int
 cb : Nat
 cd : Nat
 f : Nat → Int
 g : Nat → Int
 M : Nat
 cO : Nat
 np : Nat
 cp : Nat → Nat
 cq : Nat → Nat
 pl : Nat → Nat
 pg : Nat → Nat → Int
def Lc (v : NV) (c : Nat) : Prop := 0 + v.d ≤ c ∧ c ≤ 9223372036854775807
def Lc1 (v : NV) (c : Nat) : Prop := 0 + v.d + 1 ≤ c ∧ c ≤ 9223372036854775807
def n0 (i : Nat) : Nat × SV := (59, .slice i 1 0 0 0)
def n3 (v : NV) (i c : Nat) : Nat × SV := (62, .slice i 1 0 (0 + v.d) c)
def n5 (i : Nat) : Nat × SV := (64, .slice i 1 0 1 1)
def n6 (v : NV) (i c : Nat) : Nat × SV := (65, .slice i 1 0 (0 + v.d + 1) c)
def n7 (i : Nat) : Nat × SV := (66, .slice i 1 0 0 0)
def n10 (v : NV) (i c : Nat) : Nat × SV := (69, .slice i 1 0 (0 + v.d) c)
def n12 (i : Nat) : Nat × SV := (71, .slice i 1 0 1 1)
def n13 (v : NV) (i c : Nat) : Nat × SV := (72, .slice i 1 0 (0 + v.d + 1) c)
def n14 (v : NV) (i c j e : Nat) : Nat × SV := (73, .agg [.slice i 1 0 (0 + v.d + 1) c, .slice j 1 0 (0 + v.d + 1) e])
def n15 (i : Nat) : Nat × SV := (10, .ptr i 0)
def oX : Option SObj := some .dead
def o0 : Option SObj := some (.arr 1 0 0 fun _ => [.int .i64 0])
def o3 (v : NV) (c : Nat) : Option SObj := some (.arr 1 (0 + v.d) c (LF v.f))
def o5 (v : NV) : Option SObj := some (.arr 1 1 1 fun _ => [.int .i64 v.a])
def o6 (v : NV) (c : Nat) : Option SObj := some (.arr 1 (0 + v.d + 1) c (LF (updD v.f v.d v.a)))
def o10 (v : NV) (c : Nat) : Option SObj := some (.arr 1 (0 + v.d) c (LF v.g))
def o12 (v : NV) : Option SObj := some (.arr 1 1 1 fun _ => [.int .i64 v.b])
def o13 (v : NV) (c : Nat) : Option SObj := some (.arr 1 (0 + v.d + 1) c (LF (updD v.g v.d v.b)))
def o15 : Option SObj := some (.cells [.snil, .snil])
def o16 (v : NV) (i c j e : Nat) : Option SObj := some (.cells [.slice i 1 0 (0 + v.d + 1) c, .slice j 1 0 (0 + v.d + 1) e])
theorem lf {P : Program} {r : Option Nat} {h1 : SHeap} {ops : List Oper} {K : KS} {f m : Nat} {T T' : Tm} {H H' : SHeap} (τ : List Nat) (h : NodeP P r h1 ops K f m ⟨T', H', []⟩)
  (he : fcSt ⟨T, H, []⟩ fun s => fcSt ⟨T', H', []⟩ fun t => Fits (sel τ s.H.length) s.H τ t.H ∧ TmLe (sel τ s.H.length) s.T t.T ∧ s.D = renL (sel τ s.H.length) t.D := by
   (refine ⟨?_, by (repeat' first|exact tm|refine aN ?_ ?_), rfl⟩; (repeat' first|exact fp|refine aN ?_ ?_); all_goals first | exact rowR0 | exact rowR1b | exact rowR1 | exact rowR2 rfl | exact fun k hk => absurd hk (Nat.not_lt_zero k)))
  (hap : apartB τ H' = true := by rfl) (hfx : fixB h1.length τ = true := by rfl) (hro : roB h1 H' = true := by rfl) : whL T fun T => whL H fun H => whL [] fun D => NodeP P r h1 ops K f m ⟨T, H, D⟩ := node_leaf (node_ent (ent_tau τ he hap hfx) hro h)
theorem lf2 {P : Program} {r : Option Nat} {h1 : SHeap} {ops : List Oper} {K : KS} {f m : Nat} {T T' : Tm} {H H' : SHeap} (τ : List Nat) (h : NodeP P r h1 ops K f m ⟨T', H', []⟩)
  (he : fcSt ⟨T, H, []⟩ fun s => fcSt ⟨T', H', []⟩ fun t => Fits (sel τ s.H.length) s.H τ t.H ∧ TmLe (sel τ s.H.length) s.T t.T ∧ s.D = renL (sel τ s.H.length) t.D := by
   (refine ⟨?_, by (repeat' first|exact tm|refine aN ?_ ?_), rfl⟩; (repeat' first|exact fp|refine aN ?_ ?_); all_goals first | exact rowR0 | exact rowR1b | exact rowR1 | exact rowR2 rfl | exact fun k hk => absurd hk (Nat.not_lt_zero k)))
  (hap : apartB τ H' = true := by rfl) (hfx : fixB h1.length τ = true := by rfl) (hro : roB h1 H' = true := by rfl) : whL H fun H => whL [] fun D => NodeP P r h1 ops K f m ⟨T, H, D⟩ := node_leaf2 (node_ent (ent_tau τ he hap hfx) hro h)
theorem dn {P : Prop} (h : P := by first | ((with_reducible show allOneN _ _ _); first | exact (fun k _ => rfl) | exact one1R rfl) | ((with_reducible show (_ : Nat) ≤ _); first | exact h1.2 | exact h1.1 | exact h3.1 | exact h3.2 | (show (0 + v.d) * 8 ≤ 140737488355328; omega) | (show (0 + v.d + 1) * 8 ≤ 140737488355328; omega) | (show 0 + v.d ≤ 0 + v.d; omega) | (show (0 : Nat) + v.d ≤ v.d; omega) | omega)) : P := h
end Go.Proofs.Ytioajogaghgipaa
/-
 The document's truths: a region that makes two lists, by nodes.
-/
namespace Go.Proofs.Ytioajogaghgipaa
open Go Go.Sy Tic
set_option linter.unusedSimpArgs false
set_option maxRecDepth 100000
set_option maxHeartbeats 4000000
attribute [local irreducible] CallP CodeP Ent YieldP
set_option maxHeartbeats 16000000
-- fast: YtioajogaghgipaaDd
def nT (v : NV) (l : List (Nat × SV)) : Tm := mkT [] ([(2, .snil), (3, .ptr 5 0), (4, .ptr 6 0), (7, .int .i64 v.d), (8, .int .i64 v.a), (9, .int .i64 v.b), (60, .ptr 6 0), (61, .osl v.p 1 1 v.d v.cb), (63, .int .i64 v.a), (67, .ptr 6 1), (68, .osl v.p 2 1 v.d v.cd), (70, .int .i64 v.b)] ++ l) 0 (List.replicate 82 none)
def nH (v : NV) (l : SHeap) : SHeap := [some (.roa 5 v.t.n (TF v.t)), some (.roa 1 v.d (LF v.f)), some (.roa 1 v.d (LF v.g)), some (.dead), some (.dead), some (.roc (tb v.t)), some (.roc [.osl v.p 1 1 v.d v.cb, .osl v.p 2 1 v.d v.cd]), some (.dead), some (.dead)] ++ l
def Fkn (v : NV) (K : KS) : Prop := ∀ c1 c2 c3 c4 : Nat, Lc v c1 → Lc1 v c2 → Lc v c3 → Lc1 v c4 → K .normal ⟨(nT v [n0 9, n3 v 10 c1, n5 11, n6 v 12 c2, n7 13, n10 v 14 c3, n12 15, n13 v 16 c4, n14 v 12 c2 16 c4, n15 17]), (nH v [oX, oX, o5 v, o6 v c2, oX, oX, o12 v, o13 v c4, o16 v 12 c2 16 c4]), []⟩ []
def Rn (v : NV) (K : KS) : Prop := v.d ≤ 1000 ∧ Go.Sy.Good K ∧ PutK K ∧ Fkn v K
abbrev Nn (v : NV) (K : KS) (f m : Nat) (T : Tm) (H : SHeap) : Prop := NodeP Try.prog none (nH v []) (opsF 10 Try.f111) K f m ⟨T, H, []⟩
theorem n131071 (v : NV) (K : KS) (R : Rn v K) (c1 c2 c3 c4 : Nat) (h1 : Lc v c1) (h2 : Lc1 v c2) (h3 : Lc v c3) (h4 : Lc1 v c4) : Nn v K 0 131071 (nT v [n0 9, n3 v 10 c1, n5 11, n6 v 12 c2, n7 13, n10 v 14 c3, n12 15, n13 v 16 c4, n14 v 12 c2 16 c4, n15 17]) (nH v [oX, oX, o5 v, o6 v c2, oX, oX, o12 v, o13 v c4, o16 v 12 c2 16 c4]) := by
 exact node_done (by kernel_rfl) (R.2.2.2 c1 c2 c3 c4 h1 h2 h3 h4)
theorem n65535 (v : NV) (K : KS) (R : Rn v K) (c1 c2 c3 c4 : Nat) (h1 : Lc v c1) (h2 : Lc1 v c2) (h3 : Lc v c3) (h4 : Lc1 v c4) : Nn v K 1 65535 (nT v [n0 9, n3 v 10 c1, n5 11, n6 v 12 c2, n7 13, n10 v 14 c3, n12 15, n13 v 16 c4, n14 v 12 c2 16 c4, n15 17]) (nH v [oX, oX, o5 v, o6 v c2, oX, oX, o12 v, o13 v c4, o15]) := by
 have hd := R.1
 refine node_alt E_ok R.2.1 [16] (by kernel_rfl) (by decide) ?_
 (repeat' first|exact aq|refine aN ?_ ?_|exact trivial)
 all_goals first | exact dn | skip
 ·exact lf [0, 1, 2, 3, 4, 5, 6, 7, 8, 9, 10, 11, 12, 13, 14, 15, 16, 17] (n131071 v K R c1 c2 c3 c4 h1 h2 h3 h4)
theorem n32767 (v : NV) (K : KS) (R : Rn v K) (c1 c2 c3 c4 : Nat) (h1 : Lc v c1) (h2 : Lc1 v c2) (h3 : Lc v c3) (h4 : Lc1 v c4) : Nn v K 2 32767 (nT v [n0 9, n3 v 10 c1, n5 11, n6 v 12 c2, n7 13, n10 v 14 c3, n12 15, n13 v 16 c4, n14 v 12 c2 16 c4]) (nH v [oX, oX, o5 v, o6 v c2, oX, oX, o12 v, o13 v c4]) := by
 have hd := R.1
 refine node_alt E_ok R.2.1 [15] (by kernel_rfl) (by decide) ?_
 (repeat' first|exact aq|refine aN ?_ ?_|exact trivial)
 all_goals first | exact dn | skip
 ·exact lf [0, 1, 2, 3, 4, 5, 6, 7, 8, 9, 10, 11, 12, 13, 14, 15, 16, 17] (n65535 v K R c1 c2 c3 c4 h1 h2 h3 h4)
theorem n40959 (v : NV) (K : KS) (R : Rn v K) (c1 c2 c3 : Nat) (h1 : Lc v c1) (h2 : Lc1 v c2) (h3 : Lc v c3) : Nn v K 3 40959 (nT v [n0 9, n3 v 10 c1, n5 11, n6 v 12 c2, n7 13, n10 v 14 c3, n12 15, n15 16]) (nH v [oX, oX, o5 v, o6 v c2, oX, o10 v c3, o12 v, o15]) := by
 have hd := R.1
 refine node_alt E_ok R.2.1 [13] (by kernel_rfl) (by decide) ?_
 (repeat' first|exact aq|refine aN ?_ ?_|exact trivial)
 all_goals first | exact dn | skip
 ·intro c4 q1 q2
  have h4 : Lc1 v c4 := ⟨q1, q2⟩
  (repeat' first|exact aq|refine aN ?_ ?_|exact trivial)
  refine node_leaf (node_eager E_ok (by kernel_rfl) R.2.2.1 14 (by kernel_rfl) ?_)
  (repeat' first|exact aq|refine aN ?_ ?_|exact trivial)
  exact lf2 [0, 1, 2, 3, 4, 5, 6, 7, 8, 9, 10, 11, 12, 13, 14, 15, 17, 16] (n65535 v K R c1 c2 c3 c4 h1 h2 h3 h4)
theorem n39935 (v : NV) (K : KS) (R : Rn v K) (c1 c2 : Nat) (h1 : Lc v c1) (h2 : Lc1 v c2) : Nn v K 4 39935 (nT v [n0 9, n3 v 10 c1, n5 11, n6 v 12 c2, n7 13, n12 14, n15 15]) (nH v [oX, oX, o5 v, o6 v c2, o0, o12 v, o15]) := by
 have hd := R.1
 refine node_alt E_ok R.2.1 [10] (by kernel_rfl) (by decide) ?_
 (repeat' first|exact aq|refine aN ?_ ?_|exact trivial)
 all_goals first | exact dn | skip
 ·intro c3 q1 q2
  have h3 : Lc v c3 := ⟨q1, q2⟩
  (repeat' first|exact aq|refine aN ?_ ?_|exact trivial)
  exact lf [0, 1, 2, 3, 4, 5, 6, 7, 8, 9, 10, 11, 12, 13, 16, 14, 15] (n40959 v K R c1 c2 c3 h1 h2 h3)
theorem n36863 (v : NV) (K : KS) (R : Rn v K) (c1 c2 c3 : Nat) (h1 : Lc v c1) (h2 : Lc1 v c2) (h3 : Lc v c3) : Nn v K 4 36863 (nT v [n0 9, n3 v 10 c1, n5 11, n6 v 12 c2, n7 13, n10 v 14 c3, n15 15]) (nH v [oX, oX, o5 v, o6 v c2, oX, o10 v c3, o15]) := by
 have hd := R.1
 refine node_alt E_ok R.2.1 [12] (by kernel_rfl) (by decide) ?_
 (repeat' first|exact aq|refine aN ?_ ?_|exact trivial)
 all_goals first | exact dn | skip
 ·exact lf [0, 1, 2, 3, 4, 5, 6, 7, 8, 9, 10, 11, 12, 13, 14, 16, 15] (n40959 v K R c1 c2 c3 h1 h2 h3)
theorem n8191 (v : NV) (K : KS) (R : Rn v K) (c1 c2 c3 : Nat) (h1 : Lc v c1) (h2 : Lc1 v c2) (h3 : Lc v c3) : Nn v K 4 8191 (nT v [n0 9, n3 v 10 c1, n5 11, n6 v 12 c2, n7 13, n10 v 14 c3, n12 15]) (nH v [oX, oX, o5 v, o6 v c2, oX, o10 v c3, o12 v]) := by
 have hd := R.1
 refine node_alt E_ok R.2.1 [13, 15] (by kernel_rfl) (by decide) ?_
 (repeat' first|exact aq|refine aN ?_ ?_|exact trivial)
 all_goals first | exact dn | skip
 ·intro c4 q1 q2
  have h4 : Lc1 v c4 := ⟨q1, q2⟩
  (repeat' first|exact aq|refine aN ?_ ?_|exact trivial)
  refine node_leaf (node_eager E_ok (by kernel_rfl) R.2.2.1 14 (by kernel_rfl) ?_)
  (repeat' first|exact aq|refine aN ?_ ?_|exact trivial)
  exact lf2 [0, 1, 2, 3, 4, 5, 6, 7, 8, 9, 10, 11, 12, 13, 14, 15, 16] (n32767 v K R c1 c2 c3 c4 h1 h2 h3 h4)
 ·exact lf [0, 1, 2, 3, 4, 5, 6, 7, 8, 9, 10, 11, 12, 13, 14, 15, 16] (n40959 v K R c1 c2 c3 h1 h2 h3)
theorem n39871 (v : NV) (K : KS) (R : Rn v K) (c1 : Nat) (h1 : Lc v c1) : Nn v K 5 39871 (nT v [n0 9, n3 v 10 c1, n5 11, n7 12, n12 13, n15 14]) (nH v [oX, o3 v c1, o5 v, o0, o12 v, o15]) := by
 have hd := R.1
 refine node_alt E_ok R.2.1 [6] (by kernel_rfl) (by decide) ?_
 (repeat' first|exact aq|refine aN ?_ ?_|exact trivial)
 all_goals first | exact dn | skip
 ·intro c2 q1 q2
  have h2 : Lc1 v c2 := ⟨q1, q2⟩
  (repeat' first|exact aq|refine aN ?_ ?_|exact trivial)
  exact lf [0, 1, 2, 3, 4, 5, 6, 7, 8, 9, 10, 11, 15, 12, 13, 14] (n39935 v K R c1 c2 h1 h2)
theorem n39807 (v : NV) (K : KS) (R : Rn v K) (c1 c2 : Nat) (h1 : Lc v c1) (h2 : Lc1 v c2) : Nn v K 5 39807 (nT v [n0 9, n3 v 10 c1, n5 11, n6 v 12 c2, n12 13, n15 14]) (nH v [oX, oX, o5 v, o6 v c2, o12 v, o15]) := by
 have hd := R.1
 refine node_alt E_ok R.2.1 [7] (by kernel_rfl) (by decide) ?_
 (repeat' first|exact aq|refine aN ?_ ?_|exact trivial)
 all_goals first | exact dn | skip
 ·exact lf [0, 1, 2, 3, 4, 5, 6, 7, 8, 9, 10, 11, 12, 15, 13, 14] (n39935 v K R c1 c2 h1 h2)
theorem n35839 (v : NV) (K : KS) (R : Rn v K) (c1 c2 : Nat) (h1 : Lc v c1) (h2 : Lc1 v c2) : Nn v K 5 35839 (nT v [n0 9, n3 v 10 c1, n5 11, n6 v 12 c2, n7 13, n15 14]) (nH v [oX, oX, o5 v, o6 v c2, o0, o15]) := by
 have hd := R.1
 refine node_alt E_ok R.2.1 [10, 12] (by kernel_rfl) (by decide) ?_
 (repeat' first|exact aq|refine aN ?_ ?_|exact trivial)
 all_goals first | exact dn | skip
 ·intro c3 q1 q2
  have h3 : Lc v c3 := ⟨q1, q2⟩
  (repeat' first|exact aq|refine aN ?_ ?_|exact trivial)
  exact lf [0, 1, 2, 3, 4, 5, 6, 7, 8, 9, 10, 11, 12, 13, 15, 14] (n36863 v K R c1 c2 c3 h1 h2 h3)
 ·exact lf [0, 1, 2, 3, 4, 5, 6, 7, 8, 9, 10, 11, 12, 13, 15, 14] (n39935 v K R c1 c2 h1 h2)
theorem n7167 (v : NV) (K : KS) (R : Rn v K) (c1 c2 : Nat) (h1 : Lc v c1) (h2 : Lc1 v c2) : Nn v K 5 7167 (nT v [n0 9, n3 v 10 c1, n5 11, n6 v 12 c2, n7 13, n12 14]) (nH v [oX, oX, o5 v, o6 v c2, o0, o12 v]) := by
 have hd := R.1
 refine node_alt E_ok R.2.1 [10, 15] (by kernel_rfl) (by decide) ?_
 (repeat' first|exact aq|refine aN ?_ ?_|exact trivial)
 all_goals first | exact dn | skip
 ·intro c3 q1 q2
  have h3 : Lc v c3 := ⟨q1, q2⟩
  (repeat' first|exact aq|refine aN ?_ ?_|exact trivial)
  exact lf [0, 1, 2, 3, 4, 5, 6, 7, 8, 9, 10, 11, 12, 13, 15, 14] (n8191 v K R c1 c2 c3 h1 h2 h3)
 ·exact lf [0, 1, 2, 3, 4, 5, 6, 7, 8, 9, 10, 11, 12, 13, 14, 15] (n39935 v K R c1 c2 h1 h2)
theorem n4095 (v : NV) (K : KS) (R : Rn v K) (c1 c2 c3 : Nat) (h1 : Lc v c1) (h2 : Lc1 v c2) (h3 : Lc v c3) : Nn v K 5 4095 (nT v [n0 9, n3 v 10 c1, n5 11, n6 v 12 c2, n7 13, n10 v 14 c3]) (nH v [oX, oX, o5 v, o6 v c2, oX, o10 v c3]) := by
 have hd := R.1
 refine node_alt E_ok R.2.1 [12, 15] (by kernel_rfl) (by decide) ?_
 (repeat' first|exact aq|refine aN ?_ ?_|exact trivial)
 all_goals first | exact dn | skip
 ·exact lf [0, 1, 2, 3, 4, 5, 6, 7, 8, 9, 10, 11, 12, 13, 14, 15] (n8191 v K R c1 c2 c3 h1 h2 h3)
 ·exact lf [0, 1, 2, 3, 4, 5, 6, 7, 8, 9, 10, 11, 12, 13, 14, 15] (n36863 v K R c1 c2 c3 h1 h2 h3)
theorem n39863 (v : NV) (K : KS) (R : Rn v K)  : Nn v K 6 39863 (nT v [n0 9, n5 10, n7 11, n12 12, n15 13]) (nH v [o0, o5 v, o0, o12 v, o15]) := by
 have hd := R.1
 refine node_alt E_ok R.2.1 [3] (by kernel_rfl) (by decide) ?_
 (repeat' first|exact aq|refine aN ?_ ?_|exact trivial)
 all_goals first | exact dn | skip
 ·intro c1 q1 q2
  have h1 : Lc v c1 := ⟨q1, q2⟩
  (repeat' first|exact aq|refine aN ?_ ?_|exact trivial)
  exact lf [0, 1, 2, 3, 4, 5, 6, 7, 8, 9, 14, 10, 11, 12, 13] (n39871 v K R c1 h1)
theorem n39839 (v : NV) (K : KS) (R : Rn v K) (c1 : Nat) (h1 : Lc v c1) : Nn v K 6 39839 (nT v [n0 9, n3 v 10 c1, n7 11, n12 12, n15 13]) (nH v [oX, o3 v c1, o0, o12 v, o15]) := by
 have hd := R.1
 refine node_alt E_ok R.2.1 [5] (by kernel_rfl) (by decide) ?_
 (repeat' first|exact aq|refine aN ?_ ?_|exact trivial)
 all_goals first | exact dn | skip
 ·exact lf [0, 1, 2, 3, 4, 5, 6, 7, 8, 9, 10, 14, 11, 12, 13] (n39871 v K R c1 h1)
theorem n39743 (v : NV) (K : KS) (R : Rn v K) (c1 : Nat) (h1 : Lc v c1) : Nn v K 6 39743 (nT v [n0 9, n3 v 10 c1, n5 11, n12 12, n15 13]) (nH v [oX, o3 v c1, o5 v, o12 v, o15]) := by
 have hd := R.1
 refine node_alt E_ok R.2.1 [6, 7] (by kernel_rfl) (by decide) ?_
 (repeat' first|exact aq|refine aN ?_ ?_|exact trivial)
 all_goals first | exact dn | skip
 ·intro c2 q1 q2
  have h2 : Lc1 v c2 := ⟨q1, q2⟩
  (repeat' first|exact aq|refine aN ?_ ?_|exact trivial)
  exact lf [0, 1, 2, 3, 4, 5, 6, 7, 8, 9, 10, 11, 14, 12, 13] (n39807 v K R c1 c2 h1 h2)
 ·exact lf [0, 1, 2, 3, 4, 5, 6, 7, 8, 9, 10, 11, 14, 12, 13] (n39871 v K R c1 h1)
theorem n35775 (v : NV) (K : KS) (R : Rn v K) (c1 : Nat) (h1 : Lc v c1) : Nn v K 6 35775 (nT v [n0 9, n3 v 10 c1, n5 11, n7 12, n15 13]) (nH v [oX, o3 v c1, o5 v, o0, o15]) := by
 have hd := R.1
 refine node_alt E_ok R.2.1 [6, 12] (by kernel_rfl) (by decide) ?_
 (repeat' first|exact aq|refine aN ?_ ?_|exact trivial)
 all_goals first | exact dn | skip
 ·intro c2 q1 q2
  have h2 : Lc1 v c2 := ⟨q1, q2⟩
  (repeat' first|exact aq|refine aN ?_ ?_|exact trivial)
  exact lf [0, 1, 2, 3, 4, 5, 6, 7, 8, 9, 10, 11, 14, 12, 13] (n35839 v K R c1 c2 h1 h2)
 ·exact lf [0, 1, 2, 3, 4, 5, 6, 7, 8, 9, 10, 11, 12, 14, 13] (n39871 v K R c1 h1)
theorem n35711 (v : NV) (K : KS) (R : Rn v K) (c1 c2 : Nat) (h1 : Lc v c1) (h2 : Lc1 v c2) : Nn v K 6 35711 (nT v [n0 9, n3 v 10 c1, n5 11, n6 v 12 c2, n15 13]) (nH v [oX, oX, o5 v, o6 v c2, o15]) := by
 have hd := R.1
 refine node_alt E_ok R.2.1 [7, 12] (by kernel_rfl) (by decide) ?_
 (repeat' first|exact aq|refine aN ?_ ?_|exact trivial)
 all_goals first | exact dn | skip
 ·exact lf [0, 1, 2, 3, 4, 5, 6, 7, 8, 9, 10, 11, 12, 14, 13] (n35839 v K R c1 c2 h1 h2)
 ·exact lf [0, 1, 2, 3, 4, 5, 6, 7, 8, 9, 10, 11, 12, 14, 13] (n39807 v K R c1 c2 h1 h2)
theorem n7103 (v : NV) (K : KS) (R : Rn v K) (c1 : Nat) (h1 : Lc v c1) : Nn v K 6 7103 (nT v [n0 9, n3 v 10 c1, n5 11, n7 12, n12 13]) (nH v [oX, o3 v c1, o5 v, o0, o12 v]) := by
 have hd := R.1
 refine node_alt E_ok R.2.1 [6, 15] (by kernel_rfl) (by decide) ?_
 (repeat' first|exact aq|refine aN ?_ ?_|exact trivial)
 all_goals first | exact dn | skip
 ·intro c2 q1 q2
  have h2 : Lc1 v c2 := ⟨q1, q2⟩
  (repeat' first|exact aq|refine aN ?_ ?_|exact trivial)
  exact lf [0, 1, 2, 3, 4, 5, 6, 7, 8, 9, 10, 11, 14, 12, 13] (n7167 v K R c1 c2 h1 h2)
 ·exact lf [0, 1, 2, 3, 4, 5, 6, 7, 8, 9, 10, 11, 12, 13, 14] (n39871 v K R c1 h1)
theorem n7039 (v : NV) (K : KS) (R : Rn v K) (c1 c2 : Nat) (h1 : Lc v c1) (h2 : Lc1 v c2) : Nn v K 6 7039 (nT v [n0 9, n3 v 10 c1, n5 11, n6 v 12 c2, n12 13]) (nH v [oX, oX, o5 v, o6 v c2, o12 v]) := by
 have hd := R.1
 refine node_alt E_ok R.2.1 [7, 15] (by kernel_rfl) (by decide) ?_
 (repeat' first|exact aq|refine aN ?_ ?_|exact trivial)
 all_goals first | exact dn | skip
 ·exact lf [0, 1, 2, 3, 4, 5, 6, 7, 8, 9, 10, 11, 12, 14, 13] (n7167 v K R c1 c2 h1 h2)
 ·exact lf [0, 1, 2, 3, 4, 5, 6, 7, 8, 9, 10, 11, 12, 13, 14] (n39807 v K R c1 c2 h1 h2)
theorem n3071 (v : NV) (K : KS) (R : Rn v K) (c1 c2 : Nat) (h1 : Lc v c1) (h2 : Lc1 v c2) : Nn v K 6 3071 (nT v [n0 9, n3 v 10 c1, n5 11, n6 v 12 c2, n7 13]) (nH v [oX, oX, o5 v, o6 v c2, o0]) := by
 have hd := R.1
 refine node_alt E_ok R.2.1 [10, 12, 15] (by kernel_rfl) (by decide) ?_
 (repeat' first|exact aq|refine aN ?_ ?_|exact trivial)
 all_goals first | exact dn | skip
 ·intro c3 q1 q2
  have h3 : Lc v c3 := ⟨q1, q2⟩
  (repeat' first|exact aq|refine aN ?_ ?_|exact trivial)
  exact lf [0, 1, 2, 3, 4, 5, 6, 7, 8, 9, 10, 11, 12, 13, 14] (n4095 v K R c1 c2 c3 h1 h2 h3)
 ·exact lf [0, 1, 2, 3, 4, 5, 6, 7, 8, 9, 10, 11, 12, 13, 14] (n7167 v K R c1 c2 h1 h2)
 ·exact lf [0, 1, 2, 3, 4, 5, 6, 7, 8, 9, 10, 11, 12, 13, 14] (n35839 v K R c1 c2 h1 h2)
theorem n39862 (v : NV) (K : KS) (R : Rn v K)  : Nn v K 7 39862 (nT v [n5 9, n7 10, n12 11, n15 12]) (nH v [o5 v, o0, o12 v, o15]) := by
 have hd := R.1
 refine node_alt E_ok R.2.1 [0] (by kernel_rfl) (by decide) ?_
 (repeat' first|exact aq|refine aN ?_ ?_|exact trivial)
 all_goals first | exact dn | skip
 ·exact lf [0, 1, 2, 3, 4, 5, 6, 7, 8, 13, 9, 10, 11, 12] (n39863 v K R  )
theorem n39831 (v : NV) (K : KS) (R : Rn v K)  : Nn v K 7 39831 (nT v [n0 9, n7 10, n12 11, n15 12]) (nH v [o0, o0, o12 v, o15]) := by
 have hd := R.1
 refine node_alt E_ok R.2.1 [3, 5] (by kernel_rfl) (by decide) ?_
 (repeat' first|exact aq|refine aN ?_ ?_|exact trivial)
 all_goals first | exact dn | skip
 ·intro c1 q1 q2
  have h1 : Lc v c1 := ⟨q1, q2⟩
  (repeat' first|exact aq|refine aN ?_ ?_|exact trivial)
  exact lf [0, 1, 2, 3, 4, 5, 6, 7, 8, 9, 13, 10, 11, 12] (n39839 v K R c1 h1)
 ·exact lf [0, 1, 2, 3, 4, 5, 6, 7, 8, 9, 13, 10, 11, 12] (n39863 v K R  )
theorem n39735 (v : NV) (K : KS) (R : Rn v K)  : Nn v K 7 39735 (nT v [n0 9, n5 10, n12 11, n15 12]) (nH v [o0, o5 v, o12 v, o15]) := by
 have hd := R.1
 refine node_alt E_ok R.2.1 [3, 7] (by kernel_rfl) (by decide) ?_
 (repeat' first|exact aq|refine aN ?_ ?_|exact trivial)
 all_goals first | exact dn | skip
 ·intro c1 q1 q2
  have h1 : Lc v c1 := ⟨q1, q2⟩
  (repeat' first|exact aq|refine aN ?_ ?_|exact trivial)
  exact lf [0, 1, 2, 3, 4, 5, 6, 7, 8, 9, 13, 10, 11, 12] (n39743 v K R c1 h1)
 ·exact lf [0, 1, 2, 3, 4, 5, 6, 7, 8, 9, 10, 13, 11, 12] (n39863 v K R  )
theorem n39711 (v : NV) (K : KS) (R : Rn v K) (c1 : Nat) (h1 : Lc v c1) : Nn v K 7 39711 (nT v [n0 9, n3 v 10 c1, n12 11, n15 12]) (nH v [oX, o3 v c1, o12 v, o15]) := by
 have hd := R.1
 refine node_alt E_ok R.2.1 [5, 7] (by kernel_rfl) (by decide) ?_
 (repeat' first|exact aq|refine aN ?_ ?_|exact trivial)
 all_goals first | exact dn | skip
 ·exact lf [0, 1, 2, 3, 4, 5, 6, 7, 8, 9, 10, 13, 11, 12] (n39743 v K R c1 h1)
 ·exact lf [0, 1, 2, 3, 4, 5, 6, 7, 8, 9, 10, 13, 11, 12] (n39839 v K R c1 h1)
theorem n35767 (v : NV) (K : KS) (R : Rn v K)  : Nn v K 7 35767 (nT v [n0 9, n5 10, n7 11, n15 12]) (nH v [o0, o5 v, o0, o15]) := by
 have hd := R.1
 refine node_alt E_ok R.2.1 [3, 12] (by kernel_rfl) (by decide) ?_
 (repeat' first|exact aq|refine aN ?_ ?_|exact trivial)
 all_goals first | exact dn | skip
 ·intro c1 q1 q2
  have h1 : Lc v c1 := ⟨q1, q2⟩
  (repeat' first|exact aq|refine aN ?_ ?_|exact trivial)
  exact lf [0, 1, 2, 3, 4, 5, 6, 7, 8, 9, 13, 10, 11, 12] (n35775 v K R c1 h1)
 ·exact lf [0, 1, 2, 3, 4, 5, 6, 7, 8, 9, 10, 11, 13, 12] (n39863 v K R  )
theorem n35743 (v : NV) (K : KS) (R : Rn v K) (c1 : Nat) (h1 : Lc v c1) : Nn v K 7 35743 (nT v [n0 9, n3 v 10 c1, n7 11, n15 12]) (nH v [oX, o3 v c1, o0, o15]) := by
 have hd := R.1
 refine node_alt E_ok R.2.1 [5, 12] (by kernel_rfl) (by decide) ?_
 (repeat' first|exact aq|refine aN ?_ ?_|exact trivial)
 all_goals first | exact dn | skip
 ·exact lf [0, 1, 2, 3, 4, 5, 6, 7, 8, 9, 10, 13, 11, 12] (n35775 v K R c1 h1)
 ·exact lf [0, 1, 2, 3, 4, 5, 6, 7, 8, 9, 10, 11, 13, 12] (n39839 v K R c1 h1)
theorem n35647 (v : NV) (K : KS) (R : Rn v K) (c1 : Nat) (h1 : Lc v c1) : Nn v K 7 35647 (nT v [n0 9, n3 v 10 c1, n5 11, n15 12]) (nH v [oX, o3 v c1, o5 v, o15]) := by
 have hd := R.1
 refine node_alt E_ok R.2.1 [6, 7, 12] (by kernel_rfl) (by decide) ?_
 (repeat' first|exact aq|refine aN ?_ ?_|exact trivial)
 all_goals first | exact dn | skip
 ·intro c2 q1 q2
  have h2 : Lc1 v c2 := ⟨q1, q2⟩
  (repeat' first|exact aq|refine aN ?_ ?_|exact trivial)
  exact lf [0, 1, 2, 3, 4, 5, 6, 7, 8, 9, 10, 11, 13, 12] (n35711 v K R c1 c2 h1 h2)
 ·exact lf [0, 1, 2, 3, 4, 5, 6, 7, 8, 9, 10, 11, 13, 12] (n35775 v K R c1 h1)
 ·exact lf [0, 1, 2, 3, 4, 5, 6, 7, 8, 9, 10, 11, 13, 12] (n39743 v K R c1 h1)
theorem n7095 (v : NV) (K : KS) (R : Rn v K)  : Nn v K 7 7095 (nT v [n0 9, n5 10, n7 11, n12 12]) (nH v [o0, o5 v, o0, o12 v]) := by
 have hd := R.1
 refine node_alt E_ok R.2.1 [3, 15] (by kernel_rfl) (by decide) ?_
 (repeat' first|exact aq|refine aN ?_ ?_|exact trivial)
 all_goals first | exact dn | skip
 ·intro c1 q1 q2
  have h1 : Lc v c1 := ⟨q1, q2⟩
  (repeat' first|exact aq|refine aN ?_ ?_|exact trivial)
  exact lf [0, 1, 2, 3, 4, 5, 6, 7, 8, 9, 13, 10, 11, 12] (n7103 v K R c1 h1)
 ·exact lf [0, 1, 2, 3, 4, 5, 6, 7, 8, 9, 10, 11, 12, 13] (n39863 v K R  )
theorem n7071 (v : NV) (K : KS) (R : Rn v K) (c1 : Nat) (h1 : Lc v c1) : Nn v K 7 7071 (nT v [n0 9, n3 v 10 c1, n7 11, n12 12]) (nH v [oX, o3 v c1, o0, o12 v]) := by
 have hd := R.1
 refine node_alt E_ok R.2.1 [5, 15] (by kernel_rfl) (by decide) ?_
 (repeat' first|exact aq|refine aN ?_ ?_|exact trivial)
 all_goals first | exact dn | skip
 ·exact lf [0, 1, 2, 3, 4, 5, 6, 7, 8, 9, 10, 13, 11, 12] (n7103 v K R c1 h1)
 ·exact lf [0, 1, 2, 3, 4, 5, 6, 7, 8, 9, 10, 11, 12, 13] (n39839 v K R c1 h1)
theorem n6975 (v : NV) (K : KS) (R : Rn v K) (c1 : Nat) (h1 : Lc v c1) : Nn v K 7 6975 (nT v [n0 9, n3 v 10 c1, n5 11, n12 12]) (nH v [oX, o3 v c1, o5 v, o12 v]) := by
 have hd := R.1
 refine node_alt E_ok R.2.1 [6, 7, 15] (by kernel_rfl) (by decide) ?_
 (repeat' first|exact aq|refine aN ?_ ?_|exact trivial)
 all_goals first | exact dn | skip
 ·intro c2 q1 q2
  have h2 : Lc1 v c2 := ⟨q1, q2⟩
  (repeat' first|exact aq|refine aN ?_ ?_|exact trivial)
  exact lf [0, 1, 2, 3, 4, 5, 6, 7, 8, 9, 10, 11, 13, 12] (n7039 v K R c1 c2 h1 h2)
 ·exact lf [0, 1, 2, 3, 4, 5, 6, 7, 8, 9, 10, 11, 13, 12] (n7103 v K R c1 h1)
 ·exact lf [0, 1, 2, 3, 4, 5, 6, 7, 8, 9, 10, 11, 12, 13] (n39743 v K R c1 h1)
theorem n3007 (v : NV) (K : KS) (R : Rn v K) (c1 : Nat) (h1 : Lc v c1) : Nn v K 7 3007 (nT v [n0 9, n3 v 10 c1, n5 11, n7 12]) (nH v [oX, o3 v c1, o5 v, o0]) := by
 have hd := R.1
 refine node_alt E_ok R.2.1 [6, 12, 15] (by kernel_rfl) (by decide) ?_
 (repeat' first|exact aq|refine aN ?_ ?_|exact trivial)
 all_goals first | exact dn | skip
 ·intro c2 q1 q2
  have h2 : Lc1 v c2 := ⟨q1, q2⟩
  (repeat' first|exact aq|refine aN ?_ ?_|exact trivial)
  exact lf [0, 1, 2, 3, 4, 5, 6, 7, 8, 9, 10, 11, 13, 12] (n3071 v K R c1 c2 h1 h2)
 ·exact lf [0, 1, 2, 3, 4, 5, 6, 7, 8, 9, 10, 11, 12, 13] (n7103 v K R c1 h1)
 ·exact lf [0, 1, 2, 3, 4, 5, 6, 7, 8, 9, 10, 11, 12, 13] (n35775 v K R c1 h1)
theorem n2943 (v : NV) (K : KS) (R : Rn v K) (c1 c2 : Nat) (h1 : Lc v c1) (h2 : Lc1 v c2) : Nn v K 7 2943 (nT v [n0 9, n3 v 10 c1, n5 11, n6 v 12 c2]) (nH v [oX, oX, o5 v, o6 v c2]) := by
 have hd := R.1
 refine node_alt E_ok R.2.1 [7, 12, 15] (by kernel_rfl) (by decide) ?_
 (repeat' first|exact aq|refine aN ?_ ?_|exact trivial)
 all_goals first | exact dn | skip
 ·exact lf [0, 1, 2, 3, 4, 5, 6, 7, 8, 9, 10, 11, 12, 13] (n3071 v K R c1 c2 h1 h2)
 ·exact lf [0, 1, 2, 3, 4, 5, 6, 7, 8, 9, 10, 11, 12, 13] (n7039 v K R c1 c2 h1 h2)
 ·exact lf [0, 1, 2, 3, 4, 5, 6, 7, 8, 9, 10, 11, 12, 13] (n35711 v K R c1 c2 h1 h2)
theorem n39830 (v : NV) (K : KS) (R : Rn v K)  : Nn v K 8 39830 (nT v [n7 9, n12 10, n15 11]) (nH v [o0, o12 v, o15]) := by
 have hd := R.1
 refine node_alt E_ok R.2.1 [0, 5] (by kernel_rfl) (by decide) ?_
 (repeat' first|exact aq|refine aN ?_ ?_|exact trivial)
 all_goals first | exact dn | skip
 ·exact lf [0, 1, 2, 3, 4, 5, 6, 7, 8, 12, 9, 10, 11] (n39831 v K R  )
 ·exact lf [0, 1, 2, 3, 4, 5, 6, 7, 8, 12, 9, 10, 11] (n39862 v K R  )
theorem n39734 (v : NV) (K : KS) (R : Rn v K)  : Nn v K 8 39734 (nT v [n5 9, n12 10, n15 11]) (nH v [o5 v, o12 v, o15]) := by
 have hd := R.1
 refine node_alt E_ok R.2.1 [0, 7] (by kernel_rfl) (by decide) ?_
 (repeat' first|exact aq|refine aN ?_ ?_|exact trivial)
 all_goals first | exact dn | skip
 ·exact lf [0, 1, 2, 3, 4, 5, 6, 7, 8, 12, 9, 10, 11] (n39735 v K R  )
 ·exact lf [0, 1, 2, 3, 4, 5, 6, 7, 8, 9, 12, 10, 11] (n39862 v K R  )
theorem n39703 (v : NV) (K : KS) (R : Rn v K)  : Nn v K 8 39703 (nT v [n0 9, n12 10, n15 11]) (nH v [o0, o12 v, o15]) := by
 have hd := R.1
 refine node_alt E_ok R.2.1 [3, 5, 7] (by kernel_rfl) (by decide) ?_
 (repeat' first|exact aq|refine aN ?_ ?_|exact trivial)
 all_goals first | exact dn | skip
 ·intro c1 q1 q2
  have h1 : Lc v c1 := ⟨q1, q2⟩
  (repeat' first|exact aq|refine aN ?_ ?_|exact trivial)
  exact lf [0, 1, 2, 3, 4, 5, 6, 7, 8, 9, 12, 10, 11] (n39711 v K R c1 h1)
 ·exact lf [0, 1, 2, 3, 4, 5, 6, 7, 8, 9, 12, 10, 11] (n39735 v K R  )
 ·exact lf [0, 1, 2, 3, 4, 5, 6, 7, 8, 9, 12, 10, 11] (n39831 v K R  )
theorem n35766 (v : NV) (K : KS) (R : Rn v K)  : Nn v K 8 35766 (nT v [n5 9, n7 10, n15 11]) (nH v [o5 v, o0, o15]) := by
 have hd := R.1
 refine node_alt E_ok R.2.1 [0, 12] (by kernel_rfl) (by decide) ?_
 (repeat' first|exact aq|refine aN ?_ ?_|exact trivial)
 all_goals first | exact dn | skip
 ·exact lf [0, 1, 2, 3, 4, 5, 6, 7, 8, 12, 9, 10, 11] (n35767 v K R  )
 ·exact lf [0, 1, 2, 3, 4, 5, 6, 7, 8, 9, 10, 12, 11] (n39862 v K R  )
theorem n35735 (v : NV) (K : KS) (R : Rn v K)  : Nn v K 8 35735 (nT v [n0 9, n7 10, n15 11]) (nH v [o0, o0, o15]) := by
 have hd := R.1
 refine node_alt E_ok R.2.1 [3, 5, 12] (by kernel_rfl) (by decide) ?_
 (repeat' first|exact aq|refine aN ?_ ?_|exact trivial)
 all_goals first | exact dn | skip
 ·intro c1 q1 q2
  have h1 : Lc v c1 := ⟨q1, q2⟩
  (repeat' first|exact aq|refine aN ?_ ?_|exact trivial)
  exact lf [0, 1, 2, 3, 4, 5, 6, 7, 8, 9, 12, 10, 11] (n35743 v K R c1 h1)
 ·exact lf [0, 1, 2, 3, 4, 5, 6, 7, 8, 9, 12, 10, 11] (n35767 v K R  )
 ·exact lf [0, 1, 2, 3, 4, 5, 6, 7, 8, 9, 10, 12, 11] (n39831 v K R  )
theorem n35639 (v : NV) (K : KS) (R : Rn v K)  : Nn v K 8 35639 (nT v [n0 9, n5 10, n15 11]) (nH v [o0, o5 v, o15]) := by
 have hd := R.1
 refine node_alt E_ok R.2.1 [3, 7, 12] (by kernel_rfl) (by decide) ?_
 (repeat' first|exact aq|refine aN ?_ ?_|exact trivial)
 all_goals first | exact dn | skip
 ·intro c1 q1 q2
  have h1 : Lc v c1 := ⟨q1, q2⟩
  (repeat' first|exact aq|refine aN ?_ ?_|exact trivial)
  exact lf [0, 1, 2, 3, 4, 5, 6, 7, 8, 9, 12, 10, 11] (n35647 v K R c1 h1)
 ·exact lf [0, 1, 2, 3, 4, 5, 6, 7, 8, 9, 10, 12, 11] (n35767 v K R  )
 ·exact lf [0, 1, 2, 3, 4, 5, 6, 7, 8, 9, 10, 12, 11] (n39735 v K R  )
theorem n35615 (v : NV) (K : KS) (R : Rn v K) (c1 : Nat) (h1 : Lc v c1) : Nn v K 8 35615 (nT v [n0 9, n3 v 10 c1, n15 11]) (nH v [oX, o3 v c1, o15]) := by
 have hd := R.1
 refine node_alt E_ok R.2.1 [5, 7, 12] (by kernel_rfl) (by decide) ?_
 (repeat' first|exact aq|refine aN ?_ ?_|exact trivial)
 all_goals first | exact dn | skip
 ·exact lf [0, 1, 2, 3, 4, 5, 6, 7, 8, 9, 10, 12, 11] (n35647 v K R c1 h1)
 ·exact lf [0, 1, 2, 3, 4, 5, 6, 7, 8, 9, 10, 12, 11] (n35743 v K R c1 h1)
 ·exact lf [0, 1, 2, 3, 4, 5, 6, 7, 8, 9, 10, 12, 11] (n39711 v K R c1 h1)
theorem n7094 (v : NV) (K : KS) (R : Rn v K)  : Nn v K 8 7094 (nT v [n5 9, n7 10, n12 11]) (nH v [o5 v, o0, o12 v]) := by
 have hd := R.1
 refine node_alt E_ok R.2.1 [0, 15] (by kernel_rfl) (by decide) ?_
 (repeat' first|exact aq|refine aN ?_ ?_|exact trivial)
 all_goals first | exact dn | skip
 ·exact lf [0, 1, 2, 3, 4, 5, 6, 7, 8, 12, 9, 10, 11] (n7095 v K R  )
 ·exact lf [0, 1, 2, 3, 4, 5, 6, 7, 8, 9, 10, 11, 12] (n39862 v K R  )
theorem n7063 (v : NV) (K : KS) (R : Rn v K)  : Nn v K 8 7063 (nT v [n0 9, n7 10, n12 11]) (nH v [o0, o0, o12 v]) := by
 have hd := R.1
 refine node_alt E_ok R.2.1 [3, 5, 15] (by kernel_rfl) (by decide) ?_
 (repeat' first|exact aq|refine aN ?_ ?_|exact trivial)
 all_goals first | exact dn | skip
 ·intro c1 q1 q2
  have h1 : Lc v c1 := ⟨q1, q2⟩
  (repeat' first|exact aq|refine aN ?_ ?_|exact trivial)
  exact lf [0, 1, 2, 3, 4, 5, 6, 7, 8, 9, 12, 10, 11] (n7071 v K R c1 h1)
 ·exact lf [0, 1, 2, 3, 4, 5, 6, 7, 8, 9, 12, 10, 11] (n7095 v K R  )
 ·exact lf [0, 1, 2, 3, 4, 5, 6, 7, 8, 9, 10, 11, 12] (n39831 v K R  )
theorem n6967 (v : NV) (K : KS) (R : Rn v K)  : Nn v K 8 6967 (nT v [n0 9, n5 10, n12 11]) (nH v [o0, o5 v, o12 v]) := by
 have hd := R.1
 refine node_alt E_ok R.2.1 [3, 7, 15] (by kernel_rfl) (by decide) ?_
 (repeat' first|exact aq|refine aN ?_ ?_|exact trivial)
 all_goals first | exact dn | skip
 ·intro c1 q1 q2
  have h1 : Lc v c1 := ⟨q1, q2⟩
  (repeat' first|exact aq|refine aN ?_ ?_|exact trivial)
  exact lf [0, 1, 2, 3, 4, 5, 6, 7, 8, 9, 12, 10, 11] (n6975 v K R c1 h1)
 ·exact lf [0, 1, 2, 3, 4, 5, 6, 7, 8, 9, 10, 12, 11] (n7095 v K R  )
 ·exact lf [0, 1, 2, 3, 4, 5, 6, 7, 8, 9, 10, 11, 12] (n39735 v K R  )
theorem n6943 (v : NV) (K : KS) (R : Rn v K) (c1 : Nat) (h1 : Lc v c1) : Nn v K 8 6943 (nT v [n0 9, n3 v 10 c1, n12 11]) (nH v [oX, o3 v c1, o12 v]) := by
 have hd := R.1
 refine node_alt E_ok R.2.1 [5, 7, 15] (by kernel_rfl) (by decide) ?_
 (repeat' first|exact aq|refine aN ?_ ?_|exact trivial)
 all_goals first | exact dn | skip
 ·exact lf [0, 1, 2, 3, 4, 5, 6, 7, 8, 9, 10, 12, 11] (n6975 v K R c1 h1)
 ·exact lf [0, 1, 2, 3, 4, 5, 6, 7, 8, 9, 10, 12, 11] (n7071 v K R c1 h1)
 ·exact lf [0, 1, 2, 3, 4, 5, 6, 7, 8, 9, 10, 11, 12] (n39711 v K R c1 h1)
theorem n2999 (v : NV) (K : KS) (R : Rn v K)  : Nn v K 8 2999 (nT v [n0 9, n5 10, n7 11]) (nH v [o0, o5 v, o0]) := by
 have hd := R.1
 refine node_alt E_ok R.2.1 [3, 12, 15] (by kernel_rfl) (by decide) ?_
 (repeat' first|exact aq|refine aN ?_ ?_|exact trivial)
 all_goals first | exact dn | skip
 ·intro c1 q1 q2
  have h1 : Lc v c1 := ⟨q1, q2⟩
  (repeat' first|exact aq|refine aN ?_ ?_|exact trivial)
  exact lf [0, 1, 2, 3, 4, 5, 6, 7, 8, 9, 12, 10, 11] (n3007 v K R c1 h1)
 ·exact lf [0, 1, 2, 3, 4, 5, 6, 7, 8, 9, 10, 11, 12] (n7095 v K R  )
 ·exact lf [0, 1, 2, 3, 4, 5, 6, 7, 8, 9, 10, 11, 12] (n35767 v K R  )
theorem n2975 (v : NV) (K : KS) (R : Rn v K) (c1 : Nat) (h1 : Lc v c1) : Nn v K 8 2975 (nT v [n0 9, n3 v 10 c1, n7 11]) (nH v [oX, o3 v c1, o0]) := by
 have hd := R.1
 refine node_alt E_ok R.2.1 [5, 12, 15] (by kernel_rfl) (by decide) ?_
 (repeat' first|exact aq|refine aN ?_ ?_|exact trivial)
 all_goals first | exact dn | skip
 ·exact lf [0, 1, 2, 3, 4, 5, 6, 7, 8, 9, 10, 12, 11] (n3007 v K R c1 h1)
 ·exact lf [0, 1, 2, 3, 4, 5, 6, 7, 8, 9, 10, 11, 12] (n7071 v K R c1 h1)
 ·exact lf [0, 1, 2, 3, 4, 5, 6, 7, 8, 9, 10, 11, 12] (n35743 v K R c1 h1)
theorem n2879 (v : NV) (K : KS) (R : Rn v K) (c1 : Nat) (h1 : Lc v c1) : Nn v K 8 2879 (nT v [n0 9, n3 v 10 c1, n5 11]) (nH v [oX, o3 v c1, o5 v]) := by
 have hd := R.1
 refine node_alt E_ok R.2.1 [6, 7, 12, 15] (by kernel_rfl) (by decide) ?_
 (repeat' first|exact aq|refine aN ?_ ?_|exact trivial)
 all_goals first | exact dn | skip
 ·intro c2 q1 q2
  have h2 : Lc1 v c2 := ⟨q1, q2⟩
  (repeat' first|exact aq|refine aN ?_ ?_|exact trivial)
  exact lf [0, 1, 2, 3, 4, 5, 6, 7, 8, 9, 10, 11, 12] (n2943 v K R c1 c2 h1 h2)
 ·exact lf [0, 1, 2, 3, 4, 5, 6, 7, 8, 9, 10, 11, 12] (n3007 v K R c1 h1)
 ·exact lf [0, 1, 2, 3, 4, 5, 6, 7, 8, 9, 10, 11, 12] (n6975 v K R c1 h1)
 ·exact lf [0, 1, 2, 3, 4, 5, 6, 7, 8, 9, 10, 11, 12] (n35647 v K R c1 h1)
theorem n39702 (v : NV) (K : KS) (R : Rn v K)  : Nn v K 9 39702 (nT v [n12 9, n15 10]) (nH v [o12 v, o15]) := by
 have hd := R.1
 refine node_alt E_ok R.2.1 [0, 5, 7] (by kernel_rfl) (by decide) ?_
 (repeat' first|exact aq|refine aN ?_ ?_|exact trivial)
 all_goals first | exact dn | skip
 ·exact lf [0, 1, 2, 3, 4, 5, 6, 7, 8, 11, 9, 10] (n39703 v K R  )
 ·exact lf [0, 1, 2, 3, 4, 5, 6, 7, 8, 11, 9, 10] (n39734 v K R  )
 ·exact lf [0, 1, 2, 3, 4, 5, 6, 7, 8, 11, 9, 10] (n39830 v K R  )
theorem n35734 (v : NV) (K : KS) (R : Rn v K)  : Nn v K 9 35734 (nT v [n7 9, n15 10]) (nH v [o0, o15]) := by
 have hd := R.1
 refine node_alt E_ok R.2.1 [0, 5, 12] (by kernel_rfl) (by decide) ?_
 (repeat' first|exact aq|refine aN ?_ ?_|exact trivial)
 all_goals first | exact dn | skip
 ·exact lf [0, 1, 2, 3, 4, 5, 6, 7, 8, 11, 9, 10] (n35735 v K R  )
 ·exact lf [0, 1, 2, 3, 4, 5, 6, 7, 8, 11, 9, 10] (n35766 v K R  )
 ·exact lf [0, 1, 2, 3, 4, 5, 6, 7, 8, 9, 11, 10] (n39830 v K R  )
theorem n35638 (v : NV) (K : KS) (R : Rn v K)  : Nn v K 9 35638 (nT v [n5 9, n15 10]) (nH v [o5 v, o15]) := by
 have hd := R.1
 refine node_alt E_ok R.2.1 [0, 7, 12] (by kernel_rfl) (by decide) ?_
 (repeat' first|exact aq|refine aN ?_ ?_|exact trivial)
 all_goals first | exact dn | skip
 ·exact lf [0, 1, 2, 3, 4, 5, 6, 7, 8, 11, 9, 10] (n35639 v K R  )
 ·exact lf [0, 1, 2, 3, 4, 5, 6, 7, 8, 9, 11, 10] (n35766 v K R  )
 ·exact lf [0, 1, 2, 3, 4, 5, 6, 7, 8, 9, 11, 10] (n39734 v K R  )
theorem n35607 (v : NV) (K : KS) (R : Rn v K)  : Nn v K 9 35607 (nT v [n0 9, n15 10]) (nH v [o0, o15]) := by
 have hd := R.1
 refine node_alt E_ok R.2.1 [3, 5, 7, 12] (by kernel_rfl) (by decide) ?_
 (repeat' first|exact aq|refine aN ?_ ?_|exact trivial)
 all_goals first | exact dn | skip
 ·intro c1 q1 q2
  have h1 : Lc v c1 := ⟨q1, q2⟩
  (repeat' first|exact aq|refine aN ?_ ?_|exact trivial)
  exact lf [0, 1, 2, 3, 4, 5, 6, 7, 8, 9, 11, 10] (n35615 v K R c1 h1)
 ·exact lf [0, 1, 2, 3, 4, 5, 6, 7, 8, 9, 11, 10] (n35639 v K R  )
 ·exact lf [0, 1, 2, 3, 4, 5, 6, 7, 8, 9, 11, 10] (n35735 v K R  )
 ·exact lf [0, 1, 2, 3, 4, 5, 6, 7, 8, 9, 11, 10] (n39703 v K R  )
theorem n7062 (v : NV) (K : KS) (R : Rn v K)  : Nn v K 9 7062 (nT v [n7 9, n12 10]) (nH v [o0, o12 v]) := by
 have hd := R.1
 refine node_alt E_ok R.2.1 [0, 5, 15] (by kernel_rfl) (by decide) ?_
 (repeat' first|exact aq|refine aN ?_ ?_|exact trivial)
 all_goals first | exact dn | skip
 ·exact lf [0, 1, 2, 3, 4, 5, 6, 7, 8, 11, 9, 10] (n7063 v K R  )
 ·exact lf [0, 1, 2, 3, 4, 5, 6, 7, 8, 11, 9, 10] (n7094 v K R  )
 ·exact lf [0, 1, 2, 3, 4, 5, 6, 7, 8, 9, 10, 11] (n39830 v K R  )
theorem n6966 (v : NV) (K : KS) (R : Rn v K)  : Nn v K 9 6966 (nT v [n5 9, n12 10]) (nH v [o5 v, o12 v]) := by
 have hd := R.1
 refine node_alt E_ok R.2.1 [0, 7, 15] (by kernel_rfl) (by decide) ?_
 (repeat' first|exact aq|refine aN ?_ ?_|exact trivial)
 all_goals first | exact dn | skip
 ·exact lf [0, 1, 2, 3, 4, 5, 6, 7, 8, 11, 9, 10] (n6967 v K R  )
 ·exact lf [0, 1, 2, 3, 4, 5, 6, 7, 8, 9, 11, 10] (n7094 v K R  )
 ·exact lf [0, 1, 2, 3, 4, 5, 6, 7, 8, 9, 10, 11] (n39734 v K R  )
theorem n6935 (v : NV) (K : KS) (R : Rn v K)  : Nn v K 9 6935 (nT v [n0 9, n12 10]) (nH v [o0, o12 v]) := by
 have hd := R.1
 refine node_alt E_ok R.2.1 [3, 5, 7, 15] (by kernel_rfl) (by decide) ?_
 (repeat' first|exact aq|refine aN ?_ ?_|exact trivial)
 all_goals first | exact dn | skip
 ·intro c1 q1 q2
  have h1 : Lc v c1 := ⟨q1, q2⟩
  (repeat' first|exact aq|refine aN ?_ ?_|exact trivial)
  exact lf [0, 1, 2, 3, 4, 5, 6, 7, 8, 9, 11, 10] (n6943 v K R c1 h1)
 ·exact lf [0, 1, 2, 3, 4, 5, 6, 7, 8, 9, 11, 10] (n6967 v K R  )
 ·exact lf [0, 1, 2, 3, 4, 5, 6, 7, 8, 9, 11, 10] (n7063 v K R  )
 ·exact lf [0, 1, 2, 3, 4, 5, 6, 7, 8, 9, 10, 11] (n39703 v K R  )
theorem n2998 (v : NV) (K : KS) (R : Rn v K)  : Nn v K 9 2998 (nT v [n5 9, n7 10]) (nH v [o5 v, o0]) := by
 have hd := R.1
 refine node_alt E_ok R.2.1 [0, 12, 15] (by kernel_rfl) (by decide) ?_
 (repeat' first|exact aq|refine aN ?_ ?_|exact trivial)
 all_goals first | exact dn | skip
 ·exact lf [0, 1, 2, 3, 4, 5, 6, 7, 8, 11, 9, 10] (n2999 v K R  )
 ·exact lf [0, 1, 2, 3, 4, 5, 6, 7, 8, 9, 10, 11] (n7094 v K R  )
 ·exact lf [0, 1, 2, 3, 4, 5, 6, 7, 8, 9, 10, 11] (n35766 v K R  )
theorem n2967 (v : NV) (K : KS) (R : Rn v K)  : Nn v K 9 2967 (nT v [n0 9, n7 10]) (nH v [o0, o0]) := by
 have hd := R.1
 refine node_alt E_ok R.2.1 [3, 5, 12, 15] (by kernel_rfl) (by decide) ?_
 (repeat' first|exact aq|refine aN ?_ ?_|exact trivial)
 all_goals first | exact dn | skip
 ·intro c1 q1 q2
  have h1 : Lc v c1 := ⟨q1, q2⟩
  (repeat' first|exact aq|refine aN ?_ ?_|exact trivial)
  exact lf [0, 1, 2, 3, 4, 5, 6, 7, 8, 9, 11, 10] (n2975 v K R c1 h1)
 ·exact lf [0, 1, 2, 3, 4, 5, 6, 7, 8, 9, 11, 10] (n2999 v K R  )
 ·exact lf [0, 1, 2, 3, 4, 5, 6, 7, 8, 9, 10, 11] (n7063 v K R  )
 ·exact lf [0, 1, 2, 3, 4, 5, 6, 7, 8, 9, 10, 11] (n35735 v K R  )
theorem n2871 (v : NV) (K : KS) (R : Rn v K)  : Nn v K 9 2871 (nT v [n0 9, n5 10]) (nH v [o0, o5 v]) := by
 have hd := R.1
 refine node_alt E_ok R.2.1 [3, 7, 12, 15] (by kernel_rfl) (by decide) ?_
 (repeat' first|exact aq|refine aN ?_ ?_|exact trivial)
 all_goals first | exact dn | skip
 ·intro c1 q1 q2
  have h1 : Lc v c1 := ⟨q1, q2⟩
  (repeat' first|exact aq|refine aN ?_ ?_|exact trivial)
  exact lf [0, 1, 2, 3, 4, 5, 6, 7, 8, 9, 11, 10] (n2879 v K R c1 h1)
 ·exact lf [0, 1, 2, 3, 4, 5, 6, 7, 8, 9, 10, 11] (n2999 v K R  )
 ·exact lf [0, 1, 2, 3, 4, 5, 6, 7, 8, 9, 10, 11] (n6967 v K R  )
 ·exact lf [0, 1, 2, 3, 4, 5, 6, 7, 8, 9, 10, 11] (n35639 v K R  )
theorem n2847 (v : NV) (K : KS) (R : Rn v K) (c1 : Nat) (h1 : Lc v c1) : Nn v K 9 2847 (nT v [n0 9, n3 v 10 c1]) (nH v [oX, o3 v c1]) := by
 have hd := R.1
 refine node_alt E_ok R.2.1 [5, 7, 12, 15] (by kernel_rfl) (by decide) ?_
 (repeat' first|exact aq|refine aN ?_ ?_|exact trivial)
 all_goals first | exact dn | skip
 ·exact lf [0, 1, 2, 3, 4, 5, 6, 7, 8, 9, 10, 11] (n2879 v K R c1 h1)
 ·exact lf [0, 1, 2, 3, 4, 5, 6, 7, 8, 9, 10, 11] (n2975 v K R c1 h1)
 ·exact lf [0, 1, 2, 3, 4, 5, 6, 7, 8, 9, 10, 11] (n6943 v K R c1 h1)
 ·exact lf [0, 1, 2, 3, 4, 5, 6, 7, 8, 9, 10, 11] (n35615 v K R c1 h1)
theorem n35606 (v : NV) (K : KS) (R : Rn v K)  : Nn v K 10 35606 (nT v [n15 9]) (nH v [o15]) := by
 have hd := R.1
 refine node_alt E_ok R.2.1 [0, 5, 7, 12] (by kernel_rfl) (by decide) ?_
 (repeat' first|exact aq|refine aN ?_ ?_|exact trivial)
 all_goals first | exact dn | skip
 ·exact lf [0, 1, 2, 3, 4, 5, 6, 7, 8, 10, 9] (n35607 v K R  )
 ·exact lf [0, 1, 2, 3, 4, 5, 6, 7, 8, 10, 9] (n35638 v K R  )
 ·exact lf [0, 1, 2, 3, 4, 5, 6, 7, 8, 10, 9] (n35734 v K R  )
 ·exact lf [0, 1, 2, 3, 4, 5, 6, 7, 8, 10, 9] (n39702 v K R  )
theorem n6934 (v : NV) (K : KS) (R : Rn v K)  : Nn v K 10 6934 (nT v [n12 9]) (nH v [o12 v]) := by
 have hd := R.1
 refine node_alt E_ok R.2.1 [0, 5, 7, 15] (by kernel_rfl) (by decide) ?_
 (repeat' first|exact aq|refine aN ?_ ?_|exact trivial)
 all_goals first | exact dn | skip
 ·exact lf [0, 1, 2, 3, 4, 5, 6, 7, 8, 10, 9] (n6935 v K R  )
 ·exact lf [0, 1, 2, 3, 4, 5, 6, 7, 8, 10, 9] (n6966 v K R  )
 ·exact lf [0, 1, 2, 3, 4, 5, 6, 7, 8, 10, 9] (n7062 v K R  )
 ·exact lf [0, 1, 2, 3, 4, 5, 6, 7, 8, 9, 10] (n39702 v K R  )
theorem n2966 (v : NV) (K : KS) (R : Rn v K)  : Nn v K 10 2966 (nT v [n7 9]) (nH v [o0]) := by
 have hd := R.1
 refine node_alt E_ok R.2.1 [0, 5, 12, 15] (by kernel_rfl) (by decide) ?_
 (repeat' first|exact aq|refine aN ?_ ?_|exact trivial)
 all_goals first | exact dn | skip
 ·exact lf [0, 1, 2, 3, 4, 5, 6, 7, 8, 10, 9] (n2967 v K R  )
 ·exact lf [0, 1, 2, 3, 4, 5, 6, 7, 8, 10, 9] (n2998 v K R  )
 ·exact lf [0, 1, 2, 3, 4, 5, 6, 7, 8, 9, 10] (n7062 v K R  )
 ·exact lf [0, 1, 2, 3, 4, 5, 6, 7, 8, 9, 10] (n35734 v K R  )
theorem n2870 (v : NV) (K : KS) (R : Rn v K)  : Nn v K 10 2870 (nT v [n5 9]) (nH v [o5 v]) := by
 have hd := R.1
 refine node_alt E_ok R.2.1 [0, 7, 12, 15] (by kernel_rfl) (by decide) ?_
 (repeat' first|exact aq|refine aN ?_ ?_|exact trivial)
 all_goals first | exact dn | skip
 ·exact lf [0, 1, 2, 3, 4, 5, 6, 7, 8, 10, 9] (n2871 v K R  )
 ·exact lf [0, 1, 2, 3, 4, 5, 6, 7, 8, 9, 10] (n2998 v K R  )
 ·exact lf [0, 1, 2, 3, 4, 5, 6, 7, 8, 9, 10] (n6966 v K R  )
 ·exact lf [0, 1, 2, 3, 4, 5, 6, 7, 8, 9, 10] (n35638 v K R  )
theorem n2839 (v : NV) (K : KS) (R : Rn v K)  : Nn v K 10 2839 (nT v [n0 9]) (nH v [o0]) := by
 have hd := R.1
 refine node_alt E_ok R.2.1 [3, 5, 7, 12, 15] (by kernel_rfl) (by decide) ?_
 (repeat' first|exact aq|refine aN ?_ ?_|exact trivial)
 all_goals first | exact dn | skip
 ·intro c1 q1 q2
  have h1 : Lc v c1 := ⟨q1, q2⟩
  (repeat' first|exact aq|refine aN ?_ ?_|exact trivial)
  exact lf [0, 1, 2, 3, 4, 5, 6, 7, 8, 9, 10] (n2847 v K R c1 h1)
 ·exact lf [0, 1, 2, 3, 4, 5, 6, 7, 8, 9, 10] (n2871 v K R  )
 ·exact lf [0, 1, 2, 3, 4, 5, 6, 7, 8, 9, 10] (n2967 v K R  )
 ·exact lf [0, 1, 2, 3, 4, 5, 6, 7, 8, 9, 10] (n6935 v K R  )
 ·exact lf [0, 1, 2, 3, 4, 5, 6, 7, 8, 9, 10] (n35607 v K R  )
theorem n2838 (v : NV) (K : KS) (R : Rn v K)  : Nn v K 11 2838 (nT v []) (nH v []) := by
 have hd := R.1
 refine node_alt E_ok R.2.1 [0, 5, 7, 12, 15] (by kernel_rfl) (by decide) ?_
 (repeat' first|exact aq|refine aN ?_ ?_|exact trivial)
 all_goals first | exact dn | skip
 ·exact lf [0, 1, 2, 3, 4, 5, 6, 7, 8, 9] (n2839 v K R  )
 ·exact lf [0, 1, 2, 3, 4, 5, 6, 7, 8, 9] (n2870 v K R  )
 ·exact lf [0, 1, 2, 3, 4, 5, 6, 7, 8, 9] (n2966 v K R  )
 ·exact lf [0, 1, 2, 3, 4, 5, 6, 7, 8, 9] (n6934 v K R  )
 ·exact lf [0, 1, 2, 3, 4, 5, 6, 7, 8, 9] (n35606 v K R  )
section
variable (t : TK) (p : Bool) (d : Nat) (a b : Int) (cb cd : Nat) (f g : Nat → Int) (K : KS)
def H1x : SHeap := [some (.roa 5 t.n (TF t)), some (.roa 1 d (LF f)), some (.roa 1 d (LF g)), some (.dead), some (.dead), some (.roc (tb t)), some (.roc [.osl p 1 1 d cb, .osl p 2 1 d cd]), some (.dead), some (.dead)]
def Fin1 : Prop := ∀ c1 c2 c3 c4 : Nat, 0 + d ≤ c1 ∧ c1 ≤ 9223372036854775807 → 0 + d + 1 ≤ c2 ∧ c2 ≤ 9223372036854775807 → 0 + d ≤ c3 ∧ c3 ≤ 9223372036854775807 → 0 + d + 1 ≤ c4 ∧ c4 ≤ 9223372036854775807 → K .normal ⟨mkT [] [(2, .snil), (3, .ptr 5 0), (4, .ptr 6 0), (7, .int .i64 d), (8, .int .i64 a), (9, .int .i64 b), (10, .ptr 17 0), (59, .slice 9 1 0 0 0), (60, .ptr 6 0), (61, .osl p 1 1 d cb), (62, .slice 10 1 0 (0 + d) c1), (63, .int .i64 a), (64, .slice 11 1 0 1 1), (65, .slice 12 1 0 (0 + d + 1) c2), (66, .slice 13 1 0 0 0), (67, .ptr 6 1), (68, .osl p 2 1 d cd), (69, .slice 14 1 0 (0 + d) c3), (70, .int .i64 b), (71, .slice 15 1 0 1 1), (72, .slice 16 1 0 (0 + d + 1) c4), (73, .agg [.slice 12 1 0 (0 + d + 1) c2, .slice 16 1 0 (0 + d + 1) c4])] 0 (List.replicate 82 none), [some (.roa 5 t.n (TF t)), some (.roa 1 d (LF f)), some (.roa 1 d (LF g)), some (.dead), some (.dead), some (.roc (tb t)), some (.roc [.osl p 1 1 d cb, .osl p 2 1 d cd]), some (.dead), some (.dead), some (.dead), some (.dead), some (.arr 1 1 1 fun _ => [.int .i64 a]), some (.arr 1 (0 + d + 1) c2 (LF (updD f d a))), some (.dead), some (.dead), some (.arr 1 1 1 fun _ => [.int .i64 b]), some (.arr 1 (0 + d + 1) c4 (LF (updD g d b))), some (.cells [.slice 12 1 0 (0 + d + 1) c2, .slice 16 1 0 (0 + d + 1) c4])], []⟩ []
theorem st111 (hd : d ≤ 1000) (hG : Go.Sy.Good K) (hKc : PutK K) (hK : Fin1 t p d a b cb cd f g K) : NodeP Try.prog none (H1x t p d cb cd f g) (opsF 10 Try.f111) K 17 0 ⟨mkT [] [(2, .snil), (3, .ptr 5 0), (4, .ptr 6 0), (7, .int .i64 d), (8, .int .i64 a), (9, .int .i64 b)] 0 (List.replicate 82 none), [some (.roa 5 t.n (TF t)), some (.roa 1 d (LF f)), some (.roa 1 d (LF g)), some (.dead), some (.dead), some (.roc (tb t)), some (.roc [.osl p 1 1 d cb, .osl p 2 1 d cd]), some (.dead), some (.dead)], []⟩ := by
 refine node_eager E_ok (by kernel_rfl) hKc 1 (by kernel_rfl) ?_
 (repeat' first|exact aq|refine aN ?_ ?_|exact trivial)
 refine node_leaf2 (node_eager E_ok (by kernel_rfl) hKc 2 (by kernel_rfl) ?_)
 (repeat' first|exact aq|refine aN ?_ ?_|exact trivial)
 refine node_leaf2 (node_eager E_ok (by kernel_rfl) hKc 4 (by kernel_rfl) ?_)
 (repeat' first|exact aq|refine aN ?_ ?_|exact trivial)
 refine node_leaf2 (node_eager E_ok (by kernel_rfl) hKc 8 (by kernel_rfl) ?_)
 (repeat' first|exact aq|refine aN ?_ ?_|exact trivial)
 refine node_leaf2 (node_eager E_ok (by kernel_rfl) hKc 9 (by kernel_rfl) ?_)
 (repeat' first|exact aq|refine aN ?_ ?_|exact trivial)
 refine node_leaf2 (node_eager E_ok (by kernel_rfl) hKc 11 (by kernel_rfl) ?_)
 (repeat' first|exact aq|refine aN ?_ ?_|exact trivial)
 exact lf2 [0, 1, 2, 3, 4, 5, 6, 7, 8] (n2838 ⟨t, p, d, a, b, cb, cd, f, g, 0, 0, 0, fun _ => 0, fun _ => 0, fun _ => 0, fun _ _ => 0⟩ K ⟨hd, hG, hKc, hK⟩)
end
end Go.Proofs.Ytioajogaghgipaa
