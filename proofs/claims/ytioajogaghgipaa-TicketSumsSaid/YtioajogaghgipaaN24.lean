/-
  Parts: R1s.
-/
import Derived.Test.YtioajogaghgipaaN23
set_option linter.unusedVariables false
/-
 The document's truths: a region that makes two lists, by nodes, where there are truths already.
-/
namespace Go.Proofs.Ytioajogaghgipaa
open Go Go.Sy Tic
set_option linter.unusedSimpArgs false
set_option maxRecDepth 100000
set_option maxHeartbeats 4000000
attribute [local irreducible] CallP CodeP Ent YieldP
set_option maxHeartbeats 16000000
-- fast: YtioajogaghgipaaDd
def sT (v : NV) (l : List (Nat × SV)) : Tm := mkT [] ([(2, .slice 7 2 0 v.M v.cO), (3, .ptr 5 0), (4, .ptr 6 0), (7, .int .i64 v.d), (8, .int .i64 v.a), (9, .int .i64 v.b), (60, .ptr 6 0), (61, .osl v.p 1 1 v.d v.cb), (63, .int .i64 v.a), (67, .ptr 6 1), (68, .osl v.p 2 1 v.d v.cd), (70, .int .i64 v.b)] ++ l) 0 (List.replicate 82 none)
def sH (v : NV) (l : SHeap) : SHeap := [some (.roa 5 v.t.n (TF v.t)), some (.roa 1 v.d (LF v.f)), some (.roa 1 v.d (LF v.g)), some (.dead), some (.dead), some (.roc (tb v.t)), some (.roc [.osl v.p 1 1 v.d v.cb, .osl v.p 2 1 v.d v.cd]), some (.arr 2 v.M v.cO (rwsT 8 v.t.n v.cp v.cq)), some (.pool true v.np v.pl v.pg)] ++ l
def Fks (v : NV) (K : KS) : Prop := ∀ c1 c2 c3 c4 : Nat, Lc v c1 → Lc1 v c2 → Lc v c3 → Lc1 v c4 → K .normal ⟨(sT v [n0 9, n3 v 10 c1, n5 11, n6 v 12 c2, n7 13, n10 v 14 c3, n12 15, n13 v 16 c4, n14 v 12 c2 16 c4, n15 17]), (sH v [oX, oX, o5 v, o6 v c2, oX, oX, o12 v, o13 v c4, o16 v 12 c2 16 c4]), []⟩ []
def Rs (v : NV) (K : KS) : Prop := v.d ≤ 1000 ∧ Go.Sy.Good K ∧ PutK K ∧ Fks v K
abbrev Ns (v : NV) (K : KS) (f m : Nat) (T : Tm) (H : SHeap) : Prop := NodeP Try.prog none (sH v []) (opsF 10 Try.f111) K f m ⟨T, H, []⟩
theorem s131071 (v : NV) (K : KS) (R : Rs v K) (c1 c2 c3 c4 : Nat) (h1 : Lc v c1) (h2 : Lc1 v c2) (h3 : Lc v c3) (h4 : Lc1 v c4) : Ns v K 0 131071 (sT v [n0 9, n3 v 10 c1, n5 11, n6 v 12 c2, n7 13, n10 v 14 c3, n12 15, n13 v 16 c4, n14 v 12 c2 16 c4, n15 17]) (sH v [oX, oX, o5 v, o6 v c2, oX, oX, o12 v, o13 v c4, o16 v 12 c2 16 c4]) := by
 exact node_done (by kernel_rfl) (R.2.2.2 c1 c2 c3 c4 h1 h2 h3 h4)
theorem s65535 (v : NV) (K : KS) (R : Rs v K) (c1 c2 c3 c4 : Nat) (h1 : Lc v c1) (h2 : Lc1 v c2) (h3 : Lc v c3) (h4 : Lc1 v c4) : Ns v K 1 65535 (sT v [n0 9, n3 v 10 c1, n5 11, n6 v 12 c2, n7 13, n10 v 14 c3, n12 15, n13 v 16 c4, n14 v 12 c2 16 c4, n15 17]) (sH v [oX, oX, o5 v, o6 v c2, oX, oX, o12 v, o13 v c4, o15]) := by
 have hd := R.1
 refine node_alt E_ok R.2.1 [16] (by kernel_rfl) (by decide) ?_
 (repeat' first|exact aq|refine aN ?_ ?_|exact trivial)
 all_goals first | exact dn | skip
 ·exact lf [0, 1, 2, 3, 4, 5, 6, 7, 8, 9, 10, 11, 12, 13, 14, 15, 16, 17] (s131071 v K R c1 c2 c3 c4 h1 h2 h3 h4)
theorem s32767 (v : NV) (K : KS) (R : Rs v K) (c1 c2 c3 c4 : Nat) (h1 : Lc v c1) (h2 : Lc1 v c2) (h3 : Lc v c3) (h4 : Lc1 v c4) : Ns v K 2 32767 (sT v [n0 9, n3 v 10 c1, n5 11, n6 v 12 c2, n7 13, n10 v 14 c3, n12 15, n13 v 16 c4, n14 v 12 c2 16 c4]) (sH v [oX, oX, o5 v, o6 v c2, oX, oX, o12 v, o13 v c4]) := by
 have hd := R.1
 refine node_alt E_ok R.2.1 [15] (by kernel_rfl) (by decide) ?_
 (repeat' first|exact aq|refine aN ?_ ?_|exact trivial)
 all_goals first | exact dn | skip
 ·exact lf [0, 1, 2, 3, 4, 5, 6, 7, 8, 9, 10, 11, 12, 13, 14, 15, 16, 17] (s65535 v K R c1 c2 c3 c4 h1 h2 h3 h4)
theorem s40959 (v : NV) (K : KS) (R : Rs v K) (c1 c2 c3 : Nat) (h1 : Lc v c1) (h2 : Lc1 v c2) (h3 : Lc v c3) : Ns v K 3 40959 (sT v [n0 9, n3 v 10 c1, n5 11, n6 v 12 c2, n7 13, n10 v 14 c3, n12 15, n15 16]) (sH v [oX, oX, o5 v, o6 v c2, oX, o10 v c3, o12 v, o15]) := by
 have hd := R.1
 refine node_alt E_ok R.2.1 [13] (by kernel_rfl) (by decide) ?_
 (repeat' first|exact aq|refine aN ?_ ?_|exact trivial)
 all_goals first | exact dn | skip
 ·intro c4 q1 q2
  have h4 : Lc1 v c4 := ⟨q1, q2⟩
  (repeat' first|exact aq|refine aN ?_ ?_|exact trivial)
  refine node_leaf (node_eager E_ok (by kernel_rfl) R.2.2.1 14 (by kernel_rfl) ?_)
  (repeat' first|exact aq|refine aN ?_ ?_|exact trivial)
  exact lf2 [0, 1, 2, 3, 4, 5, 6, 7, 8, 9, 10, 11, 12, 13, 14, 15, 17, 16] (s65535 v K R c1 c2 c3 c4 h1 h2 h3 h4)
theorem s39935 (v : NV) (K : KS) (R : Rs v K) (c1 c2 : Nat) (h1 : Lc v c1) (h2 : Lc1 v c2) : Ns v K 4 39935 (sT v [n0 9, n3 v 10 c1, n5 11, n6 v 12 c2, n7 13, n12 14, n15 15]) (sH v [oX, oX, o5 v, o6 v c2, o0, o12 v, o15]) := by
 have hd := R.1
 refine node_alt E_ok R.2.1 [10] (by kernel_rfl) (by decide) ?_
 (repeat' first|exact aq|refine aN ?_ ?_|exact trivial)
 all_goals first | exact dn | skip
 ·intro c3 q1 q2
  have h3 : Lc v c3 := ⟨q1, q2⟩
  (repeat' first|exact aq|refine aN ?_ ?_|exact trivial)
  exact lf [0, 1, 2, 3, 4, 5, 6, 7, 8, 9, 10, 11, 12, 13, 16, 14, 15] (s40959 v K R c1 c2 c3 h1 h2 h3)
theorem s36863 (v : NV) (K : KS) (R : Rs v K) (c1 c2 c3 : Nat) (h1 : Lc v c1) (h2 : Lc1 v c2) (h3 : Lc v c3) : Ns v K 4 36863 (sT v [n0 9, n3 v 10 c1, n5 11, n6 v 12 c2, n7 13, n10 v 14 c3, n15 15]) (sH v [oX, oX, o5 v, o6 v c2, oX, o10 v c3, o15]) := by
 have hd := R.1
 refine node_alt E_ok R.2.1 [12] (by kernel_rfl) (by decide) ?_
 (repeat' first|exact aq|refine aN ?_ ?_|exact trivial)
 all_goals first | exact dn | skip
 ·exact lf [0, 1, 2, 3, 4, 5, 6, 7, 8, 9, 10, 11, 12, 13, 14, 16, 15] (s40959 v K R c1 c2 c3 h1 h2 h3)
theorem s8191 (v : NV) (K : KS) (R : Rs v K) (c1 c2 c3 : Nat) (h1 : Lc v c1) (h2 : Lc1 v c2) (h3 : Lc v c3) : Ns v K 4 8191 (sT v [n0 9, n3 v 10 c1, n5 11, n6 v 12 c2, n7 13, n10 v 14 c3, n12 15]) (sH v [oX, oX, o5 v, o6 v c2, oX, o10 v c3, o12 v]) := by
 have hd := R.1
 refine node_alt E_ok R.2.1 [13, 15] (by kernel_rfl) (by decide) ?_
 (repeat' first|exact aq|refine aN ?_ ?_|exact trivial)
 all_goals first | exact dn | skip
 ·intro c4 q1 q2
  have h4 : Lc1 v c4 := ⟨q1, q2⟩
  (repeat' first|exact aq|refine aN ?_ ?_|exact trivial)
  refine node_leaf (node_eager E_ok (by kernel_rfl) R.2.2.1 14 (by kernel_rfl) ?_)
  (repeat' first|exact aq|refine aN ?_ ?_|exact trivial)
  exact lf2 [0, 1, 2, 3, 4, 5, 6, 7, 8, 9, 10, 11, 12, 13, 14, 15, 16] (s32767 v K R c1 c2 c3 c4 h1 h2 h3 h4)
 ·exact lf [0, 1, 2, 3, 4, 5, 6, 7, 8, 9, 10, 11, 12, 13, 14, 15, 16] (s40959 v K R c1 c2 c3 h1 h2 h3)
theorem s39871 (v : NV) (K : KS) (R : Rs v K) (c1 : Nat) (h1 : Lc v c1) : Ns v K 5 39871 (sT v [n0 9, n3 v 10 c1, n5 11, n7 12, n12 13, n15 14]) (sH v [oX, o3 v c1, o5 v, o0, o12 v, o15]) := by
 have hd := R.1
 refine node_alt E_ok R.2.1 [6] (by kernel_rfl) (by decide) ?_
 (repeat' first|exact aq|refine aN ?_ ?_|exact trivial)
 all_goals first | exact dn | skip
 ·intro c2 q1 q2
  have h2 : Lc1 v c2 := ⟨q1, q2⟩
  (repeat' first|exact aq|refine aN ?_ ?_|exact trivial)
  exact lf [0, 1, 2, 3, 4, 5, 6, 7, 8, 9, 10, 11, 15, 12, 13, 14] (s39935 v K R c1 c2 h1 h2)
theorem s39807 (v : NV) (K : KS) (R : Rs v K) (c1 c2 : Nat) (h1 : Lc v c1) (h2 : Lc1 v c2) : Ns v K 5 39807 (sT v [n0 9, n3 v 10 c1, n5 11, n6 v 12 c2, n12 13, n15 14]) (sH v [oX, oX, o5 v, o6 v c2, o12 v, o15]) := by
 have hd := R.1
 refine node_alt E_ok R.2.1 [7] (by kernel_rfl) (by decide) ?_
 (repeat' first|exact aq|refine aN ?_ ?_|exact trivial)
 all_goals first | exact dn | skip
 ·exact lf [0, 1, 2, 3, 4, 5, 6, 7, 8, 9, 10, 11, 12, 15, 13, 14] (s39935 v K R c1 c2 h1 h2)
theorem s35839 (v : NV) (K : KS) (R : Rs v K) (c1 c2 : Nat) (h1 : Lc v c1) (h2 : Lc1 v c2) : Ns v K 5 35839 (sT v [n0 9, n3 v 10 c1, n5 11, n6 v 12 c2, n7 13, n15 14]) (sH v [oX, oX, o5 v, o6 v c2, o0, o15]) := by
 have hd := R.1
 refine node_alt E_ok R.2.1 [10, 12] (by kernel_rfl) (by decide) ?_
 (repeat' first|exact aq|refine aN ?_ ?_|exact trivial)
 all_goals first | exact dn | skip
 ·intro c3 q1 q2
  have h3 : Lc v c3 := ⟨q1, q2⟩
  (repeat' first|exact aq|refine aN ?_ ?_|exact trivial)
  exact lf [0, 1, 2, 3, 4, 5, 6, 7, 8, 9, 10, 11, 12, 13, 15, 14] (s36863 v K R c1 c2 c3 h1 h2 h3)
 ·exact lf [0, 1, 2, 3, 4, 5, 6, 7, 8, 9, 10, 11, 12, 13, 15, 14] (s39935 v K R c1 c2 h1 h2)
theorem s7167 (v : NV) (K : KS) (R : Rs v K) (c1 c2 : Nat) (h1 : Lc v c1) (h2 : Lc1 v c2) : Ns v K 5 7167 (sT v [n0 9, n3 v 10 c1, n5 11, n6 v 12 c2, n7 13, n12 14]) (sH v [oX, oX, o5 v, o6 v c2, o0, o12 v]) := by
 have hd := R.1
 refine node_alt E_ok R.2.1 [10, 15] (by kernel_rfl) (by decide) ?_
 (repeat' first|exact aq|refine aN ?_ ?_|exact trivial)
 all_goals first | exact dn | skip
 ·intro c3 q1 q2
  have h3 : Lc v c3 := ⟨q1, q2⟩
  (repeat' first|exact aq|refine aN ?_ ?_|exact trivial)
  exact lf [0, 1, 2, 3, 4, 5, 6, 7, 8, 9, 10, 11, 12, 13, 15, 14] (s8191 v K R c1 c2 c3 h1 h2 h3)
 ·exact lf [0, 1, 2, 3, 4, 5, 6, 7, 8, 9, 10, 11, 12, 13, 14, 15] (s39935 v K R c1 c2 h1 h2)
theorem s4095 (v : NV) (K : KS) (R : Rs v K) (c1 c2 c3 : Nat) (h1 : Lc v c1) (h2 : Lc1 v c2) (h3 : Lc v c3) : Ns v K 5 4095 (sT v [n0 9, n3 v 10 c1, n5 11, n6 v 12 c2, n7 13, n10 v 14 c3]) (sH v [oX, oX, o5 v, o6 v c2, oX, o10 v c3]) := by
 have hd := R.1
 refine node_alt E_ok R.2.1 [12, 15] (by kernel_rfl) (by decide) ?_
 (repeat' first|exact aq|refine aN ?_ ?_|exact trivial)
 all_goals first | exact dn | skip
 ·exact lf [0, 1, 2, 3, 4, 5, 6, 7, 8, 9, 10, 11, 12, 13, 14, 15] (s8191 v K R c1 c2 c3 h1 h2 h3)
 ·exact lf [0, 1, 2, 3, 4, 5, 6, 7, 8, 9, 10, 11, 12, 13, 14, 15] (s36863 v K R c1 c2 c3 h1 h2 h3)
theorem s39863 (v : NV) (K : KS) (R : Rs v K)  : Ns v K 6 39863 (sT v [n0 9, n5 10, n7 11, n12 12, n15 13]) (sH v [o0, o5 v, o0, o12 v, o15]) := by
 have hd := R.1
 refine node_alt E_ok R.2.1 [3] (by kernel_rfl) (by decide) ?_
 (repeat' first|exact aq|refine aN ?_ ?_|exact trivial)
 all_goals first | exact dn | skip
 ·intro c1 q1 q2
  have h1 : Lc v c1 := ⟨q1, q2⟩
  (repeat' first|exact aq|refine aN ?_ ?_|exact trivial)
  exact lf [0, 1, 2, 3, 4, 5, 6, 7, 8, 9, 14, 10, 11, 12, 13] (s39871 v K R c1 h1)
theorem s39839 (v : NV) (K : KS) (R : Rs v K) (c1 : Nat) (h1 : Lc v c1) : Ns v K 6 39839 (sT v [n0 9, n3 v 10 c1, n7 11, n12 12, n15 13]) (sH v [oX, o3 v c1, o0, o12 v, o15]) := by
 have hd := R.1
 refine node_alt E_ok R.2.1 [5] (by kernel_rfl) (by decide) ?_
 (repeat' first|exact aq|refine aN ?_ ?_|exact trivial)
 all_goals first | exact dn | skip
 ·exact lf [0, 1, 2, 3, 4, 5, 6, 7, 8, 9, 10, 14, 11, 12, 13] (s39871 v K R c1 h1)
theorem s39743 (v : NV) (K : KS) (R : Rs v K) (c1 : Nat) (h1 : Lc v c1) : Ns v K 6 39743 (sT v [n0 9, n3 v 10 c1, n5 11, n12 12, n15 13]) (sH v [oX, o3 v c1, o5 v, o12 v, o15]) := by
 have hd := R.1
 refine node_alt E_ok R.2.1 [6, 7] (by kernel_rfl) (by decide) ?_
 (repeat' first|exact aq|refine aN ?_ ?_|exact trivial)
 all_goals first | exact dn | skip
 ·intro c2 q1 q2
  have h2 : Lc1 v c2 := ⟨q1, q2⟩
  (repeat' first|exact aq|refine aN ?_ ?_|exact trivial)
  exact lf [0, 1, 2, 3, 4, 5, 6, 7, 8, 9, 10, 11, 14, 12, 13] (s39807 v K R c1 c2 h1 h2)
 ·exact lf [0, 1, 2, 3, 4, 5, 6, 7, 8, 9, 10, 11, 14, 12, 13] (s39871 v K R c1 h1)
theorem s35775 (v : NV) (K : KS) (R : Rs v K) (c1 : Nat) (h1 : Lc v c1) : Ns v K 6 35775 (sT v [n0 9, n3 v 10 c1, n5 11, n7 12, n15 13]) (sH v [oX, o3 v c1, o5 v, o0, o15]) := by
 have hd := R.1
 refine node_alt E_ok R.2.1 [6, 12] (by kernel_rfl) (by decide) ?_
 (repeat' first|exact aq|refine aN ?_ ?_|exact trivial)
 all_goals first | exact dn | skip
 ·intro c2 q1 q2
  have h2 : Lc1 v c2 := ⟨q1, q2⟩
  (repeat' first|exact aq|refine aN ?_ ?_|exact trivial)
  exact lf [0, 1, 2, 3, 4, 5, 6, 7, 8, 9, 10, 11, 14, 12, 13] (s35839 v K R c1 c2 h1 h2)
 ·exact lf [0, 1, 2, 3, 4, 5, 6, 7, 8, 9, 10, 11, 12, 14, 13] (s39871 v K R c1 h1)
theorem s35711 (v : NV) (K : KS) (R : Rs v K) (c1 c2 : Nat) (h1 : Lc v c1) (h2 : Lc1 v c2) : Ns v K 6 35711 (sT v [n0 9, n3 v 10 c1, n5 11, n6 v 12 c2, n15 13]) (sH v [oX, oX, o5 v, o6 v c2, o15]) := by
 have hd := R.1
 refine node_alt E_ok R.2.1 [7, 12] (by kernel_rfl) (by decide) ?_
 (repeat' first|exact aq|refine aN ?_ ?_|exact trivial)
 all_goals first | exact dn | skip
 ·exact lf [0, 1, 2, 3, 4, 5, 6, 7, 8, 9, 10, 11, 12, 14, 13] (s35839 v K R c1 c2 h1 h2)
 ·exact lf [0, 1, 2, 3, 4, 5, 6, 7, 8, 9, 10, 11, 12, 14, 13] (s39807 v K R c1 c2 h1 h2)
theorem s7103 (v : NV) (K : KS) (R : Rs v K) (c1 : Nat) (h1 : Lc v c1) : Ns v K 6 7103 (sT v [n0 9, n3 v 10 c1, n5 11, n7 12, n12 13]) (sH v [oX, o3 v c1, o5 v, o0, o12 v]) := by
 have hd := R.1
 refine node_alt E_ok R.2.1 [6, 15] (by kernel_rfl) (by decide) ?_
 (repeat' first|exact aq|refine aN ?_ ?_|exact trivial)
 all_goals first | exact dn | skip
 ·intro c2 q1 q2
  have h2 : Lc1 v c2 := ⟨q1, q2⟩
  (repeat' first|exact aq|refine aN ?_ ?_|exact trivial)
  exact lf [0, 1, 2, 3, 4, 5, 6, 7, 8, 9, 10, 11, 14, 12, 13] (s7167 v K R c1 c2 h1 h2)
 ·exact lf [0, 1, 2, 3, 4, 5, 6, 7, 8, 9, 10, 11, 12, 13, 14] (s39871 v K R c1 h1)
theorem s7039 (v : NV) (K : KS) (R : Rs v K) (c1 c2 : Nat) (h1 : Lc v c1) (h2 : Lc1 v c2) : Ns v K 6 7039 (sT v [n0 9, n3 v 10 c1, n5 11, n6 v 12 c2, n12 13]) (sH v [oX, oX, o5 v, o6 v c2, o12 v]) := by
 have hd := R.1
 refine node_alt E_ok R.2.1 [7, 15] (by kernel_rfl) (by decide) ?_
 (repeat' first|exact aq|refine aN ?_ ?_|exact trivial)
 all_goals first | exact dn | skip
 ·exact lf [0, 1, 2, 3, 4, 5, 6, 7, 8, 9, 10, 11, 12, 14, 13] (s7167 v K R c1 c2 h1 h2)
 ·exact lf [0, 1, 2, 3, 4, 5, 6, 7, 8, 9, 10, 11, 12, 13, 14] (s39807 v K R c1 c2 h1 h2)
theorem s3071 (v : NV) (K : KS) (R : Rs v K) (c1 c2 : Nat) (h1 : Lc v c1) (h2 : Lc1 v c2) : Ns v K 6 3071 (sT v [n0 9, n3 v 10 c1, n5 11, n6 v 12 c2, n7 13]) (sH v [oX, oX, o5 v, o6 v c2, o0]) := by
 have hd := R.1
 refine node_alt E_ok R.2.1 [10, 12, 15] (by kernel_rfl) (by decide) ?_
 (repeat' first|exact aq|refine aN ?_ ?_|exact trivial)
 all_goals first | exact dn | skip
 ·intro c3 q1 q2
  have h3 : Lc v c3 := ⟨q1, q2⟩
  (repeat' first|exact aq|refine aN ?_ ?_|exact trivial)
  exact lf [0, 1, 2, 3, 4, 5, 6, 7, 8, 9, 10, 11, 12, 13, 14] (s4095 v K R c1 c2 c3 h1 h2 h3)
 ·exact lf [0, 1, 2, 3, 4, 5, 6, 7, 8, 9, 10, 11, 12, 13, 14] (s7167 v K R c1 c2 h1 h2)
 ·exact lf [0, 1, 2, 3, 4, 5, 6, 7, 8, 9, 10, 11, 12, 13, 14] (s35839 v K R c1 c2 h1 h2)
theorem s39862 (v : NV) (K : KS) (R : Rs v K)  : Ns v K 7 39862 (sT v [n5 9, n7 10, n12 11, n15 12]) (sH v [o5 v, o0, o12 v, o15]) := by
 have hd := R.1
 refine node_alt E_ok R.2.1 [0] (by kernel_rfl) (by decide) ?_
 (repeat' first|exact aq|refine aN ?_ ?_|exact trivial)
 all_goals first | exact dn | skip
 ·exact lf [0, 1, 2, 3, 4, 5, 6, 7, 8, 13, 9, 10, 11, 12] (s39863 v K R  )
theorem s39831 (v : NV) (K : KS) (R : Rs v K)  : Ns v K 7 39831 (sT v [n0 9, n7 10, n12 11, n15 12]) (sH v [o0, o0, o12 v, o15]) := by
 have hd := R.1
 refine node_alt E_ok R.2.1 [3, 5] (by kernel_rfl) (by decide) ?_
 (repeat' first|exact aq|refine aN ?_ ?_|exact trivial)
 all_goals first | exact dn | skip
 ·intro c1 q1 q2
  have h1 : Lc v c1 := ⟨q1, q2⟩
  (repeat' first|exact aq|refine aN ?_ ?_|exact trivial)
  exact lf [0, 1, 2, 3, 4, 5, 6, 7, 8, 9, 13, 10, 11, 12] (s39839 v K R c1 h1)
 ·exact lf [0, 1, 2, 3, 4, 5, 6, 7, 8, 9, 13, 10, 11, 12] (s39863 v K R  )
theorem s39735 (v : NV) (K : KS) (R : Rs v K)  : Ns v K 7 39735 (sT v [n0 9, n5 10, n12 11, n15 12]) (sH v [o0, o5 v, o12 v, o15]) := by
 have hd := R.1
 refine node_alt E_ok R.2.1 [3, 7] (by kernel_rfl) (by decide) ?_
 (repeat' first|exact aq|refine aN ?_ ?_|exact trivial)
 all_goals first | exact dn | skip
 ·intro c1 q1 q2
  have h1 : Lc v c1 := ⟨q1, q2⟩
  (repeat' first|exact aq|refine aN ?_ ?_|exact trivial)
  exact lf [0, 1, 2, 3, 4, 5, 6, 7, 8, 9, 13, 10, 11, 12] (s39743 v K R c1 h1)
 ·exact lf [0, 1, 2, 3, 4, 5, 6, 7, 8, 9, 10, 13, 11, 12] (s39863 v K R  )
theorem s39711 (v : NV) (K : KS) (R : Rs v K) (c1 : Nat) (h1 : Lc v c1) : Ns v K 7 39711 (sT v [n0 9, n3 v 10 c1, n12 11, n15 12]) (sH v [oX, o3 v c1, o12 v, o15]) := by
 have hd := R.1
 refine node_alt E_ok R.2.1 [5, 7] (by kernel_rfl) (by decide) ?_
 (repeat' first|exact aq|refine aN ?_ ?_|exact trivial)
 all_goals first | exact dn | skip
 ·exact lf [0, 1, 2, 3, 4, 5, 6, 7, 8, 9, 10, 13, 11, 12] (s39743 v K R c1 h1)
 ·exact lf [0, 1, 2, 3, 4, 5, 6, 7, 8, 9, 10, 13, 11, 12] (s39839 v K R c1 h1)
theorem s35767 (v : NV) (K : KS) (R : Rs v K)  : Ns v K 7 35767 (sT v [n0 9, n5 10, n7 11, n15 12]) (sH v [o0, o5 v, o0, o15]) := by
 have hd := R.1
 refine node_alt E_ok R.2.1 [3, 12] (by kernel_rfl) (by decide) ?_
 (repeat' first|exact aq|refine aN ?_ ?_|exact trivial)
 all_goals first | exact dn | skip
 ·intro c1 q1 q2
  have h1 : Lc v c1 := ⟨q1, q2⟩
  (repeat' first|exact aq|refine aN ?_ ?_|exact trivial)
  exact lf [0, 1, 2, 3, 4, 5, 6, 7, 8, 9, 13, 10, 11, 12] (s35775 v K R c1 h1)
 ·exact lf [0, 1, 2, 3, 4, 5, 6, 7, 8, 9, 10, 11, 13, 12] (s39863 v K R  )
theorem s35743 (v : NV) (K : KS) (R : Rs v K) (c1 : Nat) (h1 : Lc v c1) : Ns v K 7 35743 (sT v [n0 9, n3 v 10 c1, n7 11, n15 12]) (sH v [oX, o3 v c1, o0, o15]) := by
 have hd := R.1
 refine node_alt E_ok R.2.1 [5, 12] (by kernel_rfl) (by decide) ?_
 (repeat' first|exact aq|refine aN ?_ ?_|exact trivial)
 all_goals first | exact dn | skip
 ·exact lf [0, 1, 2, 3, 4, 5, 6, 7, 8, 9, 10, 13, 11, 12] (s35775 v K R c1 h1)
 ·exact lf [0, 1, 2, 3, 4, 5, 6, 7, 8, 9, 10, 11, 13, 12] (s39839 v K R c1 h1)
theorem s35647 (v : NV) (K : KS) (R : Rs v K) (c1 : Nat) (h1 : Lc v c1) : Ns v K 7 35647 (sT v [n0 9, n3 v 10 c1, n5 11, n15 12]) (sH v [oX, o3 v c1, o5 v, o15]) := by
 have hd := R.1
 refine node_alt E_ok R.2.1 [6, 7, 12] (by kernel_rfl) (by decide) ?_
 (repeat' first|exact aq|refine aN ?_ ?_|exact trivial)
 all_goals first | exact dn | skip
 ·intro c2 q1 q2
  have h2 : Lc1 v c2 := ⟨q1, q2⟩
  (repeat' first|exact aq|refine aN ?_ ?_|exact trivial)
  exact lf [0, 1, 2, 3, 4, 5, 6, 7, 8, 9, 10, 11, 13, 12] (s35711 v K R c1 c2 h1 h2)
 ·exact lf [0, 1, 2, 3, 4, 5, 6, 7, 8, 9, 10, 11, 13, 12] (s35775 v K R c1 h1)
 ·exact lf [0, 1, 2, 3, 4, 5, 6, 7, 8, 9, 10, 11, 13, 12] (s39743 v K R c1 h1)
theorem s7095 (v : NV) (K : KS) (R : Rs v K)  : Ns v K 7 7095 (sT v [n0 9, n5 10, n7 11, n12 12]) (sH v [o0, o5 v, o0, o12 v]) := by
 have hd := R.1
 refine node_alt E_ok R.2.1 [3, 15] (by kernel_rfl) (by decide) ?_
 (repeat' first|exact aq|refine aN ?_ ?_|exact trivial)
 all_goals first | exact dn | skip
 ·intro c1 q1 q2
  have h1 : Lc v c1 := ⟨q1, q2⟩
  (repeat' first|exact aq|refine aN ?_ ?_|exact trivial)
  exact lf [0, 1, 2, 3, 4, 5, 6, 7, 8, 9, 13, 10, 11, 12] (s7103 v K R c1 h1)
 ·exact lf [0, 1, 2, 3, 4, 5, 6, 7, 8, 9, 10, 11, 12, 13] (s39863 v K R  )
theorem s7071 (v : NV) (K : KS) (R : Rs v K) (c1 : Nat) (h1 : Lc v c1) : Ns v K 7 7071 (sT v [n0 9, n3 v 10 c1, n7 11, n12 12]) (sH v [oX, o3 v c1, o0, o12 v]) := by
 have hd := R.1
 refine node_alt E_ok R.2.1 [5, 15] (by kernel_rfl) (by decide) ?_
 (repeat' first|exact aq|refine aN ?_ ?_|exact trivial)
 all_goals first | exact dn | skip
 ·exact lf [0, 1, 2, 3, 4, 5, 6, 7, 8, 9, 10, 13, 11, 12] (s7103 v K R c1 h1)
 ·exact lf [0, 1, 2, 3, 4, 5, 6, 7, 8, 9, 10, 11, 12, 13] (s39839 v K R c1 h1)
theorem s6975 (v : NV) (K : KS) (R : Rs v K) (c1 : Nat) (h1 : Lc v c1) : Ns v K 7 6975 (sT v [n0 9, n3 v 10 c1, n5 11, n12 12]) (sH v [oX, o3 v c1, o5 v, o12 v]) := by
 have hd := R.1
 refine node_alt E_ok R.2.1 [6, 7, 15] (by kernel_rfl) (by decide) ?_
 (repeat' first|exact aq|refine aN ?_ ?_|exact trivial)
 all_goals first | exact dn | skip
 ·intro c2 q1 q2
  have h2 : Lc1 v c2 := ⟨q1, q2⟩
  (repeat' first|exact aq|refine aN ?_ ?_|exact trivial)
  exact lf [0, 1, 2, 3, 4, 5, 6, 7, 8, 9, 10, 11, 13, 12] (s7039 v K R c1 c2 h1 h2)
 ·exact lf [0, 1, 2, 3, 4, 5, 6, 7, 8, 9, 10, 11, 13, 12] (s7103 v K R c1 h1)
 ·exact lf [0, 1, 2, 3, 4, 5, 6, 7, 8, 9, 10, 11, 12, 13] (s39743 v K R c1 h1)
theorem s3007 (v : NV) (K : KS) (R : Rs v K) (c1 : Nat) (h1 : Lc v c1) : Ns v K 7 3007 (sT v [n0 9, n3 v 10 c1, n5 11, n7 12]) (sH v [oX, o3 v c1, o5 v, o0]) := by
 have hd := R.1
 refine node_alt E_ok R.2.1 [6, 12, 15] (by kernel_rfl) (by decide) ?_
 (repeat' first|exact aq|refine aN ?_ ?_|exact trivial)
 all_goals first | exact dn | skip
 ·intro c2 q1 q2
  have h2 : Lc1 v c2 := ⟨q1, q2⟩
  (repeat' first|exact aq|refine aN ?_ ?_|exact trivial)
  exact lf [0, 1, 2, 3, 4, 5, 6, 7, 8, 9, 10, 11, 13, 12] (s3071 v K R c1 c2 h1 h2)
 ·exact lf [0, 1, 2, 3, 4, 5, 6, 7, 8, 9, 10, 11, 12, 13] (s7103 v K R c1 h1)
 ·exact lf [0, 1, 2, 3, 4, 5, 6, 7, 8, 9, 10, 11, 12, 13] (s35775 v K R c1 h1)
theorem s2943 (v : NV) (K : KS) (R : Rs v K) (c1 c2 : Nat) (h1 : Lc v c1) (h2 : Lc1 v c2) : Ns v K 7 2943 (sT v [n0 9, n3 v 10 c1, n5 11, n6 v 12 c2]) (sH v [oX, oX, o5 v, o6 v c2]) := by
 have hd := R.1
 refine node_alt E_ok R.2.1 [7, 12, 15] (by kernel_rfl) (by decide) ?_
 (repeat' first|exact aq|refine aN ?_ ?_|exact trivial)
 all_goals first | exact dn | skip
 ·exact lf [0, 1, 2, 3, 4, 5, 6, 7, 8, 9, 10, 11, 12, 13] (s3071 v K R c1 c2 h1 h2)
 ·exact lf [0, 1, 2, 3, 4, 5, 6, 7, 8, 9, 10, 11, 12, 13] (s7039 v K R c1 c2 h1 h2)
 ·exact lf [0, 1, 2, 3, 4, 5, 6, 7, 8, 9, 10, 11, 12, 13] (s35711 v K R c1 c2 h1 h2)
theorem s39830 (v : NV) (K : KS) (R : Rs v K)  : Ns v K 8 39830 (sT v [n7 9, n12 10, n15 11]) (sH v [o0, o12 v, o15]) := by
 have hd := R.1
 refine node_alt E_ok R.2.1 [0, 5] (by kernel_rfl) (by decide) ?_
 (repeat' first|exact aq|refine aN ?_ ?_|exact trivial)
 all_goals first | exact dn | skip
 ·exact lf [0, 1, 2, 3, 4, 5, 6, 7, 8, 12, 9, 10, 11] (s39831 v K R  )
 ·exact lf [0, 1, 2, 3, 4, 5, 6, 7, 8, 12, 9, 10, 11] (s39862 v K R  )
theorem s39734 (v : NV) (K : KS) (R : Rs v K)  : Ns v K 8 39734 (sT v [n5 9, n12 10, n15 11]) (sH v [o5 v, o12 v, o15]) := by
 have hd := R.1
 refine node_alt E_ok R.2.1 [0, 7] (by kernel_rfl) (by decide) ?_
 (repeat' first|exact aq|refine aN ?_ ?_|exact trivial)
 all_goals first | exact dn | skip
 ·exact lf [0, 1, 2, 3, 4, 5, 6, 7, 8, 12, 9, 10, 11] (s39735 v K R  )
 ·exact lf [0, 1, 2, 3, 4, 5, 6, 7, 8, 9, 12, 10, 11] (s39862 v K R  )
theorem s39703 (v : NV) (K : KS) (R : Rs v K)  : Ns v K 8 39703 (sT v [n0 9, n12 10, n15 11]) (sH v [o0, o12 v, o15]) := by
 have hd := R.1
 refine node_alt E_ok R.2.1 [3, 5, 7] (by kernel_rfl) (by decide) ?_
 (repeat' first|exact aq|refine aN ?_ ?_|exact trivial)
 all_goals first | exact dn | skip
 ·intro c1 q1 q2
  have h1 : Lc v c1 := ⟨q1, q2⟩
  (repeat' first|exact aq|refine aN ?_ ?_|exact trivial)
  exact lf [0, 1, 2, 3, 4, 5, 6, 7, 8, 9, 12, 10, 11] (s39711 v K R c1 h1)
 ·exact lf [0, 1, 2, 3, 4, 5, 6, 7, 8, 9, 12, 10, 11] (s39735 v K R  )
 ·exact lf [0, 1, 2, 3, 4, 5, 6, 7, 8, 9, 12, 10, 11] (s39831 v K R  )
theorem s35766 (v : NV) (K : KS) (R : Rs v K)  : Ns v K 8 35766 (sT v [n5 9, n7 10, n15 11]) (sH v [o5 v, o0, o15]) := by
 have hd := R.1
 refine node_alt E_ok R.2.1 [0, 12] (by kernel_rfl) (by decide) ?_
 (repeat' first|exact aq|refine aN ?_ ?_|exact trivial)
 all_goals first | exact dn | skip
 ·exact lf [0, 1, 2, 3, 4, 5, 6, 7, 8, 12, 9, 10, 11] (s35767 v K R  )
 ·exact lf [0, 1, 2, 3, 4, 5, 6, 7, 8, 9, 10, 12, 11] (s39862 v K R  )
theorem s35735 (v : NV) (K : KS) (R : Rs v K)  : Ns v K 8 35735 (sT v [n0 9, n7 10, n15 11]) (sH v [o0, o0, o15]) := by
 have hd := R.1
 refine node_alt E_ok R.2.1 [3, 5, 12] (by kernel_rfl) (by decide) ?_
 (repeat' first|exact aq|refine aN ?_ ?_|exact trivial)
 all_goals first | exact dn | skip
 ·intro c1 q1 q2
  have h1 : Lc v c1 := ⟨q1, q2⟩
  (repeat' first|exact aq|refine aN ?_ ?_|exact trivial)
  exact lf [0, 1, 2, 3, 4, 5, 6, 7, 8, 9, 12, 10, 11] (s35743 v K R c1 h1)
 ·exact lf [0, 1, 2, 3, 4, 5, 6, 7, 8, 9, 12, 10, 11] (s35767 v K R  )
 ·exact lf [0, 1, 2, 3, 4, 5, 6, 7, 8, 9, 10, 12, 11] (s39831 v K R  )
theorem s35639 (v : NV) (K : KS) (R : Rs v K)  : Ns v K 8 35639 (sT v [n0 9, n5 10, n15 11]) (sH v [o0, o5 v, o15]) := by
 have hd := R.1
 refine node_alt E_ok R.2.1 [3, 7, 12] (by kernel_rfl) (by decide) ?_
 (repeat' first|exact aq|refine aN ?_ ?_|exact trivial)
 all_goals first | exact dn | skip
 ·intro c1 q1 q2
  have h1 : Lc v c1 := ⟨q1, q2⟩
  (repeat' first|exact aq|refine aN ?_ ?_|exact trivial)
  exact lf [0, 1, 2, 3, 4, 5, 6, 7, 8, 9, 12, 10, 11] (s35647 v K R c1 h1)
 ·exact lf [0, 1, 2, 3, 4, 5, 6, 7, 8, 9, 10, 12, 11] (s35767 v K R  )
 ·exact lf [0, 1, 2, 3, 4, 5, 6, 7, 8, 9, 10, 12, 11] (s39735 v K R  )
theorem s35615 (v : NV) (K : KS) (R : Rs v K) (c1 : Nat) (h1 : Lc v c1) : Ns v K 8 35615 (sT v [n0 9, n3 v 10 c1, n15 11]) (sH v [oX, o3 v c1, o15]) := by
 have hd := R.1
 refine node_alt E_ok R.2.1 [5, 7, 12] (by kernel_rfl) (by decide) ?_
 (repeat' first|exact aq|refine aN ?_ ?_|exact trivial)
 all_goals first | exact dn | skip
 ·exact lf [0, 1, 2, 3, 4, 5, 6, 7, 8, 9, 10, 12, 11] (s35647 v K R c1 h1)
 ·exact lf [0, 1, 2, 3, 4, 5, 6, 7, 8, 9, 10, 12, 11] (s35743 v K R c1 h1)
 ·exact lf [0, 1, 2, 3, 4, 5, 6, 7, 8, 9, 10, 12, 11] (s39711 v K R c1 h1)
theorem s7094 (v : NV) (K : KS) (R : Rs v K)  : Ns v K 8 7094 (sT v [n5 9, n7 10, n12 11]) (sH v [o5 v, o0, o12 v]) := by
 have hd := R.1
 refine node_alt E_ok R.2.1 [0, 15] (by kernel_rfl) (by decide) ?_
 (repeat' first|exact aq|refine aN ?_ ?_|exact trivial)
 all_goals first | exact dn | skip
 ·exact lf [0, 1, 2, 3, 4, 5, 6, 7, 8, 12, 9, 10, 11] (s7095 v K R  )
 ·exact lf [0, 1, 2, 3, 4, 5, 6, 7, 8, 9, 10, 11, 12] (s39862 v K R  )
theorem s7063 (v : NV) (K : KS) (R : Rs v K)  : Ns v K 8 7063 (sT v [n0 9, n7 10, n12 11]) (sH v [o0, o0, o12 v]) := by
 have hd := R.1
 refine node_alt E_ok R.2.1 [3, 5, 15] (by kernel_rfl) (by decide) ?_
 (repeat' first|exact aq|refine aN ?_ ?_|exact trivial)
 all_goals first | exact dn | skip
 ·intro c1 q1 q2
  have h1 : Lc v c1 := ⟨q1, q2⟩
  (repeat' first|exact aq|refine aN ?_ ?_|exact trivial)
  exact lf [0, 1, 2, 3, 4, 5, 6, 7, 8, 9, 12, 10, 11] (s7071 v K R c1 h1)
 ·exact lf [0, 1, 2, 3, 4, 5, 6, 7, 8, 9, 12, 10, 11] (s7095 v K R  )
 ·exact lf [0, 1, 2, 3, 4, 5, 6, 7, 8, 9, 10, 11, 12] (s39831 v K R  )
theorem s6967 (v : NV) (K : KS) (R : Rs v K)  : Ns v K 8 6967 (sT v [n0 9, n5 10, n12 11]) (sH v [o0, o5 v, o12 v]) := by
 have hd := R.1
 refine node_alt E_ok R.2.1 [3, 7, 15] (by kernel_rfl) (by decide) ?_
 (repeat' first|exact aq|refine aN ?_ ?_|exact trivial)
 all_goals first | exact dn | skip
 ·intro c1 q1 q2
  have h1 : Lc v c1 := ⟨q1, q2⟩
  (repeat' first|exact aq|refine aN ?_ ?_|exact trivial)
  exact lf [0, 1, 2, 3, 4, 5, 6, 7, 8, 9, 12, 10, 11] (s6975 v K R c1 h1)
 ·exact lf [0, 1, 2, 3, 4, 5, 6, 7, 8, 9, 10, 12, 11] (s7095 v K R  )
 ·exact lf [0, 1, 2, 3, 4, 5, 6, 7, 8, 9, 10, 11, 12] (s39735 v K R  )
theorem s6943 (v : NV) (K : KS) (R : Rs v K) (c1 : Nat) (h1 : Lc v c1) : Ns v K 8 6943 (sT v [n0 9, n3 v 10 c1, n12 11]) (sH v [oX, o3 v c1, o12 v]) := by
 have hd := R.1
 refine node_alt E_ok R.2.1 [5, 7, 15] (by kernel_rfl) (by decide) ?_
 (repeat' first|exact aq|refine aN ?_ ?_|exact trivial)
 all_goals first | exact dn | skip
 ·exact lf [0, 1, 2, 3, 4, 5, 6, 7, 8, 9, 10, 12, 11] (s6975 v K R c1 h1)
 ·exact lf [0, 1, 2, 3, 4, 5, 6, 7, 8, 9, 10, 12, 11] (s7071 v K R c1 h1)
 ·exact lf [0, 1, 2, 3, 4, 5, 6, 7, 8, 9, 10, 11, 12] (s39711 v K R c1 h1)
theorem s2999 (v : NV) (K : KS) (R : Rs v K)  : Ns v K 8 2999 (sT v [n0 9, n5 10, n7 11]) (sH v [o0, o5 v, o0]) := by
 have hd := R.1
 refine node_alt E_ok R.2.1 [3, 12, 15] (by kernel_rfl) (by decide) ?_
 (repeat' first|exact aq|refine aN ?_ ?_|exact trivial)
 all_goals first | exact dn | skip
 ·intro c1 q1 q2
  have h1 : Lc v c1 := ⟨q1, q2⟩
  (repeat' first|exact aq|refine aN ?_ ?_|exact trivial)
  exact lf [0, 1, 2, 3, 4, 5, 6, 7, 8, 9, 12, 10, 11] (s3007 v K R c1 h1)
 ·exact lf [0, 1, 2, 3, 4, 5, 6, 7, 8, 9, 10, 11, 12] (s7095 v K R  )
 ·exact lf [0, 1, 2, 3, 4, 5, 6, 7, 8, 9, 10, 11, 12] (s35767 v K R  )
theorem s2975 (v : NV) (K : KS) (R : Rs v K) (c1 : Nat) (h1 : Lc v c1) : Ns v K 8 2975 (sT v [n0 9, n3 v 10 c1, n7 11]) (sH v [oX, o3 v c1, o0]) := by
 have hd := R.1
 refine node_alt E_ok R.2.1 [5, 12, 15] (by kernel_rfl) (by decide) ?_
 (repeat' first|exact aq|refine aN ?_ ?_|exact trivial)
 all_goals first | exact dn | skip
 ·exact lf [0, 1, 2, 3, 4, 5, 6, 7, 8, 9, 10, 12, 11] (s3007 v K R c1 h1)
 ·exact lf [0, 1, 2, 3, 4, 5, 6, 7, 8, 9, 10, 11, 12] (s7071 v K R c1 h1)
 ·exact lf [0, 1, 2, 3, 4, 5, 6, 7, 8, 9, 10, 11, 12] (s35743 v K R c1 h1)
theorem s2879 (v : NV) (K : KS) (R : Rs v K) (c1 : Nat) (h1 : Lc v c1) : Ns v K 8 2879 (sT v [n0 9, n3 v 10 c1, n5 11]) (sH v [oX, o3 v c1, o5 v]) := by
 have hd := R.1
 refine node_alt E_ok R.2.1 [6, 7, 12, 15] (by kernel_rfl) (by decide) ?_
 (repeat' first|exact aq|refine aN ?_ ?_|exact trivial)
 all_goals first | exact dn | skip
 ·intro c2 q1 q2
  have h2 : Lc1 v c2 := ⟨q1, q2⟩
  (repeat' first|exact aq|refine aN ?_ ?_|exact trivial)
  exact lf [0, 1, 2, 3, 4, 5, 6, 7, 8, 9, 10, 11, 12] (s2943 v K R c1 c2 h1 h2)
 ·exact lf [0, 1, 2, 3, 4, 5, 6, 7, 8, 9, 10, 11, 12] (s3007 v K R c1 h1)
 ·exact lf [0, 1, 2, 3, 4, 5, 6, 7, 8, 9, 10, 11, 12] (s6975 v K R c1 h1)
 ·exact lf [0, 1, 2, 3, 4, 5, 6, 7, 8, 9, 10, 11, 12] (s35647 v K R c1 h1)
theorem s39702 (v : NV) (K : KS) (R : Rs v K)  : Ns v K 9 39702 (sT v [n12 9, n15 10]) (sH v [o12 v, o15]) := by
 have hd := R.1
 refine node_alt E_ok R.2.1 [0, 5, 7] (by kernel_rfl) (by decide) ?_
 (repeat' first|exact aq|refine aN ?_ ?_|exact trivial)
 all_goals first | exact dn | skip
 ·exact lf [0, 1, 2, 3, 4, 5, 6, 7, 8, 11, 9, 10] (s39703 v K R  )
 ·exact lf [0, 1, 2, 3, 4, 5, 6, 7, 8, 11, 9, 10] (s39734 v K R  )
 ·exact lf [0, 1, 2, 3, 4, 5, 6, 7, 8, 11, 9, 10] (s39830 v K R  )
theorem s35734 (v : NV) (K : KS) (R : Rs v K)  : Ns v K 9 35734 (sT v [n7 9, n15 10]) (sH v [o0, o15]) := by
 have hd := R.1
 refine node_alt E_ok R.2.1 [0, 5, 12] (by kernel_rfl) (by decide) ?_
 (repeat' first|exact aq|refine aN ?_ ?_|exact trivial)
 all_goals first | exact dn | skip
 ·exact lf [0, 1, 2, 3, 4, 5, 6, 7, 8, 11, 9, 10] (s35735 v K R  )
 ·exact lf [0, 1, 2, 3, 4, 5, 6, 7, 8, 11, 9, 10] (s35766 v K R  )
 ·exact lf [0, 1, 2, 3, 4, 5, 6, 7, 8, 9, 11, 10] (s39830 v K R  )
theorem s35638 (v : NV) (K : KS) (R : Rs v K)  : Ns v K 9 35638 (sT v [n5 9, n15 10]) (sH v [o5 v, o15]) := by
 have hd := R.1
 refine node_alt E_ok R.2.1 [0, 7, 12] (by kernel_rfl) (by decide) ?_
 (repeat' first|exact aq|refine aN ?_ ?_|exact trivial)
 all_goals first | exact dn | skip
 ·exact lf [0, 1, 2, 3, 4, 5, 6, 7, 8, 11, 9, 10] (s35639 v K R  )
 ·exact lf [0, 1, 2, 3, 4, 5, 6, 7, 8, 9, 11, 10] (s35766 v K R  )
 ·exact lf [0, 1, 2, 3, 4, 5, 6, 7, 8, 9, 11, 10] (s39734 v K R  )
theorem s35607 (v : NV) (K : KS) (R : Rs v K)  : Ns v K 9 35607 (sT v [n0 9, n15 10]) (sH v [o0, o15]) := by
 have hd := R.1
 refine node_alt E_ok R.2.1 [3, 5, 7, 12] (by kernel_rfl) (by decide) ?_
 (repeat' first|exact aq|refine aN ?_ ?_|exact trivial)
 all_goals first | exact dn | skip
 ·intro c1 q1 q2
  have h1 : Lc v c1 := ⟨q1, q2⟩
  (repeat' first|exact aq|refine aN ?_ ?_|exact trivial)
  exact lf [0, 1, 2, 3, 4, 5, 6, 7, 8, 9, 11, 10] (s35615 v K R c1 h1)
 ·exact lf [0, 1, 2, 3, 4, 5, 6, 7, 8, 9, 11, 10] (s35639 v K R  )
 ·exact lf [0, 1, 2, 3, 4, 5, 6, 7, 8, 9, 11, 10] (s35735 v K R  )
 ·exact lf [0, 1, 2, 3, 4, 5, 6, 7, 8, 9, 11, 10] (s39703 v K R  )
theorem s7062 (v : NV) (K : KS) (R : Rs v K)  : Ns v K 9 7062 (sT v [n7 9, n12 10]) (sH v [o0, o12 v]) := by
 have hd := R.1
 refine node_alt E_ok R.2.1 [0, 5, 15] (by kernel_rfl) (by decide) ?_
 (repeat' first|exact aq|refine aN ?_ ?_|exact trivial)
 all_goals first | exact dn | skip
 ·exact lf [0, 1, 2, 3, 4, 5, 6, 7, 8, 11, 9, 10] (s7063 v K R  )
 ·exact lf [0, 1, 2, 3, 4, 5, 6, 7, 8, 11, 9, 10] (s7094 v K R  )
 ·exact lf [0, 1, 2, 3, 4, 5, 6, 7, 8, 9, 10, 11] (s39830 v K R  )
theorem s6966 (v : NV) (K : KS) (R : Rs v K)  : Ns v K 9 6966 (sT v [n5 9, n12 10]) (sH v [o5 v, o12 v]) := by
 have hd := R.1
 refine node_alt E_ok R.2.1 [0, 7, 15] (by kernel_rfl) (by decide) ?_
 (repeat' first|exact aq|refine aN ?_ ?_|exact trivial)
 all_goals first | exact dn | skip
 ·exact lf [0, 1, 2, 3, 4, 5, 6, 7, 8, 11, 9, 10] (s6967 v K R  )
 ·exact lf [0, 1, 2, 3, 4, 5, 6, 7, 8, 9, 11, 10] (s7094 v K R  )
 ·exact lf [0, 1, 2, 3, 4, 5, 6, 7, 8, 9, 10, 11] (s39734 v K R  )
theorem s6935 (v : NV) (K : KS) (R : Rs v K)  : Ns v K 9 6935 (sT v [n0 9, n12 10]) (sH v [o0, o12 v]) := by
 have hd := R.1
 refine node_alt E_ok R.2.1 [3, 5, 7, 15] (by kernel_rfl) (by decide) ?_
 (repeat' first|exact aq|refine aN ?_ ?_|exact trivial)
 all_goals first | exact dn | skip
 ·intro c1 q1 q2
  have h1 : Lc v c1 := ⟨q1, q2⟩
  (repeat' first|exact aq|refine aN ?_ ?_|exact trivial)
  exact lf [0, 1, 2, 3, 4, 5, 6, 7, 8, 9, 11, 10] (s6943 v K R c1 h1)
 ·exact lf [0, 1, 2, 3, 4, 5, 6, 7, 8, 9, 11, 10] (s6967 v K R  )
 ·exact lf [0, 1, 2, 3, 4, 5, 6, 7, 8, 9, 11, 10] (s7063 v K R  )
 ·exact lf [0, 1, 2, 3, 4, 5, 6, 7, 8, 9, 10, 11] (s39703 v K R  )
theorem s2998 (v : NV) (K : KS) (R : Rs v K)  : Ns v K 9 2998 (sT v [n5 9, n7 10]) (sH v [o5 v, o0]) := by
 have hd := R.1
 refine node_alt E_ok R.2.1 [0, 12, 15] (by kernel_rfl) (by decide) ?_
 (repeat' first|exact aq|refine aN ?_ ?_|exact trivial)
 all_goals first | exact dn | skip
 ·exact lf [0, 1, 2, 3, 4, 5, 6, 7, 8, 11, 9, 10] (s2999 v K R  )
 ·exact lf [0, 1, 2, 3, 4, 5, 6, 7, 8, 9, 10, 11] (s7094 v K R  )
 ·exact lf [0, 1, 2, 3, 4, 5, 6, 7, 8, 9, 10, 11] (s35766 v K R  )
theorem s2967 (v : NV) (K : KS) (R : Rs v K)  : Ns v K 9 2967 (sT v [n0 9, n7 10]) (sH v [o0, o0]) := by
 have hd := R.1
 refine node_alt E_ok R.2.1 [3, 5, 12, 15] (by kernel_rfl) (by decide) ?_
 (repeat' first|exact aq|refine aN ?_ ?_|exact trivial)
 all_goals first | exact dn | skip
 ·intro c1 q1 q2
  have h1 : Lc v c1 := ⟨q1, q2⟩
  (repeat' first|exact aq|refine aN ?_ ?_|exact trivial)
  exact lf [0, 1, 2, 3, 4, 5, 6, 7, 8, 9, 11, 10] (s2975 v K R c1 h1)
 ·exact lf [0, 1, 2, 3, 4, 5, 6, 7, 8, 9, 11, 10] (s2999 v K R  )
 ·exact lf [0, 1, 2, 3, 4, 5, 6, 7, 8, 9, 10, 11] (s7063 v K R  )
 ·exact lf [0, 1, 2, 3, 4, 5, 6, 7, 8, 9, 10, 11] (s35735 v K R  )
theorem s2871 (v : NV) (K : KS) (R : Rs v K)  : Ns v K 9 2871 (sT v [n0 9, n5 10]) (sH v [o0, o5 v]) := by
 have hd := R.1
 refine node_alt E_ok R.2.1 [3, 7, 12, 15] (by kernel_rfl) (by decide) ?_
 (repeat' first|exact aq|refine aN ?_ ?_|exact trivial)
 all_goals first | exact dn | skip
 ·intro c1 q1 q2
  have h1 : Lc v c1 := ⟨q1, q2⟩
  (repeat' first|exact aq|refine aN ?_ ?_|exact trivial)
  exact lf [0, 1, 2, 3, 4, 5, 6, 7, 8, 9, 11, 10] (s2879 v K R c1 h1)
 ·exact lf [0, 1, 2, 3, 4, 5, 6, 7, 8, 9, 10, 11] (s2999 v K R  )
 ·exact lf [0, 1, 2, 3, 4, 5, 6, 7, 8, 9, 10, 11] (s6967 v K R  )
 ·exact lf [0, 1, 2, 3, 4, 5, 6, 7, 8, 9, 10, 11] (s35639 v K R  )
theorem s2847 (v : NV) (K : KS) (R : Rs v K) (c1 : Nat) (h1 : Lc v c1) : Ns v K 9 2847 (sT v [n0 9, n3 v 10 c1]) (sH v [oX, o3 v c1]) := by
 have hd := R.1
 refine node_alt E_ok R.2.1 [5, 7, 12, 15] (by kernel_rfl) (by decide) ?_
 (repeat' first|exact aq|refine aN ?_ ?_|exact trivial)
 all_goals first | exact dn | skip
 ·exact lf [0, 1, 2, 3, 4, 5, 6, 7, 8, 9, 10, 11] (s2879 v K R c1 h1)
 ·exact lf [0, 1, 2, 3, 4, 5, 6, 7, 8, 9, 10, 11] (s2975 v K R c1 h1)
 ·exact lf [0, 1, 2, 3, 4, 5, 6, 7, 8, 9, 10, 11] (s6943 v K R c1 h1)
 ·exact lf [0, 1, 2, 3, 4, 5, 6, 7, 8, 9, 10, 11] (s35615 v K R c1 h1)
theorem s35606 (v : NV) (K : KS) (R : Rs v K)  : Ns v K 10 35606 (sT v [n15 9]) (sH v [o15]) := by
 have hd := R.1
 refine node_alt E_ok R.2.1 [0, 5, 7, 12] (by kernel_rfl) (by decide) ?_
 (repeat' first|exact aq|refine aN ?_ ?_|exact trivial)
 all_goals first | exact dn | skip
 ·exact lf [0, 1, 2, 3, 4, 5, 6, 7, 8, 10, 9] (s35607 v K R  )
 ·exact lf [0, 1, 2, 3, 4, 5, 6, 7, 8, 10, 9] (s35638 v K R  )
 ·exact lf [0, 1, 2, 3, 4, 5, 6, 7, 8, 10, 9] (s35734 v K R  )
 ·exact lf [0, 1, 2, 3, 4, 5, 6, 7, 8, 10, 9] (s39702 v K R  )
theorem s6934 (v : NV) (K : KS) (R : Rs v K)  : Ns v K 10 6934 (sT v [n12 9]) (sH v [o12 v]) := by
 have hd := R.1
 refine node_alt E_ok R.2.1 [0, 5, 7, 15] (by kernel_rfl) (by decide) ?_
 (repeat' first|exact aq|refine aN ?_ ?_|exact trivial)
 all_goals first | exact dn | skip
 ·exact lf [0, 1, 2, 3, 4, 5, 6, 7, 8, 10, 9] (s6935 v K R  )
 ·exact lf [0, 1, 2, 3, 4, 5, 6, 7, 8, 10, 9] (s6966 v K R  )
 ·exact lf [0, 1, 2, 3, 4, 5, 6, 7, 8, 10, 9] (s7062 v K R  )
 ·exact lf [0, 1, 2, 3, 4, 5, 6, 7, 8, 9, 10] (s39702 v K R  )
theorem s2966 (v : NV) (K : KS) (R : Rs v K)  : Ns v K 10 2966 (sT v [n7 9]) (sH v [o0]) := by
 have hd := R.1
 refine node_alt E_ok R.2.1 [0, 5, 12, 15] (by kernel_rfl) (by decide) ?_
 (repeat' first|exact aq|refine aN ?_ ?_|exact trivial)
 all_goals first | exact dn | skip
 ·exact lf [0, 1, 2, 3, 4, 5, 6, 7, 8, 10, 9] (s2967 v K R  )
 ·exact lf [0, 1, 2, 3, 4, 5, 6, 7, 8, 10, 9] (s2998 v K R  )
 ·exact lf [0, 1, 2, 3, 4, 5, 6, 7, 8, 9, 10] (s7062 v K R  )
 ·exact lf [0, 1, 2, 3, 4, 5, 6, 7, 8, 9, 10] (s35734 v K R  )
theorem s2870 (v : NV) (K : KS) (R : Rs v K)  : Ns v K 10 2870 (sT v [n5 9]) (sH v [o5 v]) := by
 have hd := R.1
 refine node_alt E_ok R.2.1 [0, 7, 12, 15] (by kernel_rfl) (by decide) ?_
 (repeat' first|exact aq|refine aN ?_ ?_|exact trivial)
 all_goals first | exact dn | skip
 ·exact lf [0, 1, 2, 3, 4, 5, 6, 7, 8, 10, 9] (s2871 v K R  )
 ·exact lf [0, 1, 2, 3, 4, 5, 6, 7, 8, 9, 10] (s2998 v K R  )
 ·exact lf [0, 1, 2, 3, 4, 5, 6, 7, 8, 9, 10] (s6966 v K R  )
 ·exact lf [0, 1, 2, 3, 4, 5, 6, 7, 8, 9, 10] (s35638 v K R  )
theorem s2839 (v : NV) (K : KS) (R : Rs v K)  : Ns v K 10 2839 (sT v [n0 9]) (sH v [o0]) := by
 have hd := R.1
 refine node_alt E_ok R.2.1 [3, 5, 7, 12, 15] (by kernel_rfl) (by decide) ?_
 (repeat' first|exact aq|refine aN ?_ ?_|exact trivial)
 all_goals first | exact dn | skip
 ·intro c1 q1 q2
  have h1 : Lc v c1 := ⟨q1, q2⟩
  (repeat' first|exact aq|refine aN ?_ ?_|exact trivial)
  exact lf [0, 1, 2, 3, 4, 5, 6, 7, 8, 9, 10] (s2847 v K R c1 h1)
 ·exact lf [0, 1, 2, 3, 4, 5, 6, 7, 8, 9, 10] (s2871 v K R  )
 ·exact lf [0, 1, 2, 3, 4, 5, 6, 7, 8, 9, 10] (s2967 v K R  )
 ·exact lf [0, 1, 2, 3, 4, 5, 6, 7, 8, 9, 10] (s6935 v K R  )
 ·exact lf [0, 1, 2, 3, 4, 5, 6, 7, 8, 9, 10] (s35607 v K R  )
theorem s2838 (v : NV) (K : KS) (R : Rs v K)  : Ns v K 11 2838 (sT v []) (sH v []) := by
 have hd := R.1
 refine node_alt E_ok R.2.1 [0, 5, 7, 12, 15] (by kernel_rfl) (by decide) ?_
 (repeat' first|exact aq|refine aN ?_ ?_|exact trivial)
 all_goals first | exact dn | skip
 ·exact lf [0, 1, 2, 3, 4, 5, 6, 7, 8, 9] (s2839 v K R  )
 ·exact lf [0, 1, 2, 3, 4, 5, 6, 7, 8, 9] (s2870 v K R  )
 ·exact lf [0, 1, 2, 3, 4, 5, 6, 7, 8, 9] (s2966 v K R  )
 ·exact lf [0, 1, 2, 3, 4, 5, 6, 7, 8, 9] (s6934 v K R  )
 ·exact lf [0, 1, 2, 3, 4, 5, 6, 7, 8, 9] (s35606 v K R  )
section
variable (t : TK) (p : Bool) (d : Nat) (a b : Int) (cb cd : Nat) (f g : Nat → Int) (K : KS) (M cO np : Nat) (cp cq : Nat → Nat) (pl : Nat → Nat) (pg : Nat → Nat → Int)
def H1xs : SHeap := [some (.roa 5 t.n (TF t)), some (.roa 1 d (LF f)), some (.roa 1 d (LF g)), some (.dead), some (.dead), some (.roc (tb t)), some (.roc [.osl p 1 1 d cb, .osl p 2 1 d cd]), some (.arr 2 M cO (rwsT 8 t.n cp cq)), some (.pool true np pl pg)]
def Fin1s : Prop := ∀ c1 c2 c3 c4 : Nat, 0 + d ≤ c1 ∧ c1 ≤ 9223372036854775807 → 0 + d + 1 ≤ c2 ∧ c2 ≤ 9223372036854775807 → 0 + d ≤ c3 ∧ c3 ≤ 9223372036854775807 → 0 + d + 1 ≤ c4 ∧ c4 ≤ 9223372036854775807 → K .normal ⟨mkT [] [(2, .slice 7 2 0 M cO), (3, .ptr 5 0), (4, .ptr 6 0), (7, .int .i64 d), (8, .int .i64 a), (9, .int .i64 b), (10, .ptr 17 0), (59, .slice 9 1 0 0 0), (60, .ptr 6 0), (61, .osl p 1 1 d cb), (62, .slice 10 1 0 (0 + d) c1), (63, .int .i64 a), (64, .slice 11 1 0 1 1), (65, .slice 12 1 0 (0 + d + 1) c2), (66, .slice 13 1 0 0 0), (67, .ptr 6 1), (68, .osl p 2 1 d cd), (69, .slice 14 1 0 (0 + d) c3), (70, .int .i64 b), (71, .slice 15 1 0 1 1), (72, .slice 16 1 0 (0 + d + 1) c4), (73, .agg [.slice 12 1 0 (0 + d + 1) c2, .slice 16 1 0 (0 + d + 1) c4])] 0 (List.replicate 82 none), [some (.roa 5 t.n (TF t)), some (.roa 1 d (LF f)), some (.roa 1 d (LF g)), some (.dead), some (.dead), some (.roc (tb t)), some (.roc [.osl p 1 1 d cb, .osl p 2 1 d cd]), some (.arr 2 M cO (rwsT 8 t.n cp cq)), some (.pool true np pl pg), some (.dead), some (.dead), some (.arr 1 1 1 fun _ => [.int .i64 a]), some (.arr 1 (0 + d + 1) c2 (LF (updD f d a))), some (.dead), some (.dead), some (.arr 1 1 1 fun _ => [.int .i64 b]), some (.arr 1 (0 + d + 1) c4 (LF (updD g d b))), some (.cells [.slice 12 1 0 (0 + d + 1) c2, .slice 16 1 0 (0 + d + 1) c4])], []⟩ []
theorem st111s (hd : d ≤ 1000) (hG : Go.Sy.Good K) (hKc : PutK K) (hK : Fin1s t p d a b cb cd f g K M cO np cp cq pl pg) : NodeP Try.prog none (H1xs t p d cb cd f g M cO np cp cq pl pg) (opsF 10 Try.f111) K 17 0 ⟨mkT [] [(2, .slice 7 2 0 M cO), (3, .ptr 5 0), (4, .ptr 6 0), (7, .int .i64 d), (8, .int .i64 a), (9, .int .i64 b)] 0 (List.replicate 82 none), [some (.roa 5 t.n (TF t)), some (.roa 1 d (LF f)), some (.roa 1 d (LF g)), some (.dead), some (.dead), some (.roc (tb t)), some (.roc [.osl p 1 1 d cb, .osl p 2 1 d cd]), some (.arr 2 M cO (rwsT 8 t.n cp cq)), some (.pool true np pl pg)], []⟩ := by
 refine node_eager E_ok (by kernel_rfl) hKc 1 (by kernel_rfl) ?_
 (repeat' first|exact aq|refine aN ?_ ?_|exact trivial)
 refine node_leaf2 (node_eager E_ok (by kernel_rfl) hKc 2 (by kernel_rfl) ?_)
 (repeat' first|exact aq|refine aN ?_ ?_|exact trivial)
 refine node_leaf2 (node_eager E_ok (by kernel_rfl) hKc 4 (by kernel_rfl) ?_)
 (repeat' first|exact aq|refine aN ?_ ?_|exact trivial)
 refine node_leaf2 (node_eager E_ok (by kernel_rfl) hKc 8 (by kernel_rfl) ?_)
 (repeat' first|exact aq|refine aN ?_ ?_|exact trivial)
 refine node_leaf2 (node_eager E_ok (by kernel_rfl) hKc 9 (by kernel_rfl) ?_)
 (repeat' first|exact aq|refine aN ?_ ?_|exact trivial)
 refine node_leaf2 (node_eager E_ok (by kernel_rfl) hKc 11 (by kernel_rfl) ?_)
 (repeat' first|exact aq|refine aN ?_ ?_|exact trivial)
 exact lf2 [0, 1, 2, 3, 4, 5, 6, 7, 8] (s2838 ⟨t, p, d, a, b, cb, cd, f, g, M, cO, np, cp, cq, pl, pg⟩ K ⟨hd, hG, hKc, hK⟩)
end
end Go.Proofs.Ytioajogaghgipaa
