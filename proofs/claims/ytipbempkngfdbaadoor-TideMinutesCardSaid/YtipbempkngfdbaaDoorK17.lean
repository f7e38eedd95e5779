/-
  Parts: B7, B8, B9.
-/
import Derived.Test.YtipbempkngfdbaaDoorK16
set_option linter.unusedVariables false
/-
  Contracts: the span of a number of all truths.
-/
namespace Go.Proofs.YtipbempkngfdbaaDoor
open Go Go.Sy
set_option linter.unusedSimpArgs false
set_option maxRecDepth 100000
set_option maxHeartbeats 4000000
attribute [local irreducible] CallP CodeP Ent YieldP
set_option maxHeartbeats 800000

def pl112s : Plan := .eager 15 <| .eager 16 <| .eager 17 <| .alt 18 .done .no
def pl112_4s : Plan := .eager 0 <| .eager 1 <| .eager 2 <| .eager 3 <| .eager 4 <| .eager 6 <| .eager 8 <| .eager 9 <| .eager 10 <| .eager 11 <| .eager 13 <|
  .alt 5 (.eager 7 <| .alt 12 (.eager 14 <| pl112s) .no) (.alt 12 (.eager 14 <| .alt 5 (.eager 7 <| pl112s) .no) .no)
def nz : Nat → Bool
  | 0 => false
  | _ + 1 => true
def seeLo (sm : Bool) (lo a : Int) : Int := if sm = true then (if lo ≤ a then lo else a) else a
def seeHi (sm : Bool) (hi b : Int) : Int := if sm = true then (if b ≤ hi then hi else b) else b
/-- The least, and the greatest, of the first k. -/
def hulLo (a : Tr → Int) (g : List Tr) : Nat → Int
  | 0 => 0
  | k + 1 => seeLo (nz k) (hulLo a g k) (a (g.getD k tr0))
def hulHi (b : Tr → Int) (g : List Tr) : Nat → Int
  | 0 => 0
  | k + 1 => seeHi (nz k) (hulHi b g k) (b (g.getD k tr0))
theorem getD_mem {g : List Tr} {k : Nat} (h : k < g.length) : g.getD k tr0 ∈ g := by
  rw [List.getD_eq_getElem?_getD, List.getElem?_eq_getElem h]
  exact List.getElem_mem h
theorem cells_eq {lo hi lo' hi' : Int} {f : Nat} {caps : List SV} (h1 : lo = lo') (h2 : hi = hi') : [SV.int .i64 lo, SV.int .i64 hi, SV.bool true, SV.fn (.func f) [] caps] = [SV.int .i64 lo', SV.int .i64 hi', SV.bool true, SV.fn (.func f) [] caps] := by
  subst h1 h2
  rfl
theorem t73 (t : TD) (hv : t.Valid) (m : Int) (hm : t.isMin m) (x : Tr) (hx : goodTr t x) : CallP Tryd.prog 73 [trv x, .ptr 6 0, .ptr 7 0]
    [some (.roc [.osl t.bM 1 3 t.nM t.cM, .osl t.bS 2 2 t.nS t.cS, .osl t.bL 3 4 t.nL t.cL, .map 4]),
  some (.roa 3 t.nM (row3 t.mi t.mlo t.mhi)), some (.roa 2 t.nS (row2 t.slo t.shi)), some (.roa 4 t.nL (row4 t.lp t.lm t.llo t.lhi)), some (.memo 5 t.F []),
  some (.glob 0 [.int .i64 0, .int .i64 1, .int .i64 3, .int .i64 6, .int .i64 9, .int .i64 11, .int .i64 12]), some (.roc [.ptr 0 0]), some (.roc [.int .i64 m])] (Ret (.tup [.int .i64 (t.stand x.h m), .int .i64 (t.stand x.h m)]) [some (.roc [.osl t.bM 1 3 t.nM t.cM, .osl t.bS 2 2 t.nS t.cS, .osl t.bL 3 4 t.nL t.cL, .map 4]),
  some (.roa 3 t.nM (row3 t.mi t.mlo t.mhi)), some (.roa 2 t.nS (row2 t.slo t.shi)), some (.roa 4 t.nL (row4 t.lp t.lm t.llo t.lhi)), some (.memo 5 t.F []),
  some (.glob 0 [.int .i64 0, .int .i64 1, .int .i64 3, .int .i64 6, .int .i64 9, .int .i64 11, .int .i64 12]), some (.roc [.ptr 0 0]), some (.roc [.int .i64 m])]) := by
  refine callR (E := E) E_ok Tryd.func73 rfl ?_
  refine And.intro ?_ ?_
  · simp [AllP, under, gB, wB, inR_iff, IntKind.bits]
  refine (t74 t hv x.h hx.1 m hm).use [0, 1, 2, 3, 4, 5] ?_ (by (repeat' (first | exact trivial | exact rfl | exact fun _ _ => rfl | exact Or.inl rfl | refine And.intro ?_ ?_))) rfl
  refine And.intro ?_ ?_
  · simp [AllP, under, gB, wB, inR_iff, IntKind.bits]
  exact ent_tau [0, 1, 2, 3, 4, 5, 6, 7] ⟨by (repeat' (first | exact trivial | exact rfl | exact fun _ _ => rfl | exact Or.inl rfl | refine And.intro ?_ ?_)), by (repeat' (first | exact trivial | exact rfl | exact congrArg (SV.int .i64) (Int.natCast_succ _).symm | refine And.intro ?_ ?_)), rfl⟩

theorem s4_get (x : Tr) (p : Nat) (hp : p < 4) : ([x.s 0, x.s 1, x.s 2, x.s 3] : List Int).getD (p : Int).toNat 0 = x.s p := by
  have e : (p : Int).toNat = p := by omega
  rw [e]
  exact h4_get x.s p hp
theorem t85 (t : TD) (hv : t.Valid) (p : Nat) (hp : p < t.nS) (x : Tr) (hx : fullTr t x) : CallP Tryd.prog 85 [trv x, .ptr 0 0] [some (.roc [.int .i64 p]), some db] (Ret (.tup [.int .i64 (loE (x.s p)), .int .i64 (hiE (x.s p))]) [some (.roc [.int .i64 p]), some db]) := by
  have hS := hv.2.1
  refine callR (E := E) E_ok Tryd.func85 rfl ?_
  refine And.intro ?_ ?_
  · simp [AllP, under, gB, wB, inR_iff, IntKind.bits]
    omega
  rw [s4_get x p (by omega)]
  refine (t86 (x.s p) (hx.2 p hp)).use [1] ?_ (by (repeat' (first | exact trivial | exact rfl | exact fun _ _ => rfl | exact Or.inl rfl | refine And.intro ?_ ?_))) rfl
  refine And.intro ?_ ?_
  · simp [AllP, under, gB, wB, inR_iff, IntKind.bits]
  exact ent_tau [0, 1] ⟨by (repeat' (first | exact trivial | exact rfl | exact fun _ _ => rfl | exact Or.inl rfl | refine And.intro ?_ ?_)), by (repeat' (first | exact trivial | exact rfl | exact congrArg (SV.int .i64) (Int.natCast_succ _).symm | refine And.intro ?_ ?_)), rfl⟩
theorem t98 (t : TD) (hv : t.Valid) (m : Int) (p : Nat) (hm : t.isMin m) (hp : p < t.nS) (x : Tr) (hx : fullTr t x) : CallP Tryd.prog 98 [trv x, .ptr 6 0, .ptr 7 0, .ptr 8 0]
    [some (.roc [.osl t.bM 1 3 t.nM t.cM, .osl t.bS 2 2 t.nS t.cS, .osl t.bL 3 4 t.nL t.cL, .map 4]),
  some (.roa 3 t.nM (row3 t.mi t.mlo t.mhi)), some (.roa 2 t.nS (row2 t.slo t.shi)), some (.roa 4 t.nL (row4 t.lp t.lm t.llo t.lhi)), some (.memo 5 t.F []),
  some (.glob 0 [.int .i64 0, .int .i64 1, .int .i64 3, .int .i64 6, .int .i64 9, .int .i64 11, .int .i64 12]), some (.roc [.ptr 0 0]), some (.roc [.int .i64 m]), some (.roc [.int .i64 p]), some db]
    (Ret (.tup [.int .i64 (max0 (t.stand x.h m - hiE (x.s p))), .int .i64 (max0 (t.stand x.h m - loE (x.s p)))]) [some (.roc [.osl t.bM 1 3 t.nM t.cM, .osl t.bS 2 2 t.nS t.cS, .osl t.bL 3 4 t.nL t.cL, .map 4]),
  some (.roa 3 t.nM (row3 t.mi t.mlo t.mhi)), some (.roa 2 t.nS (row2 t.slo t.shi)), some (.roa 4 t.nL (row4 t.lp t.lm t.llo t.lhi)), some (.memo 5 t.F []),
  some (.glob 0 [.int .i64 0, .int .i64 1, .int .i64 3, .int .i64 6, .int .i64 9, .int .i64 11, .int .i64 12]), some (.roc [.ptr 0 0]), some (.roc [.int .i64 m]), some (.roc [.int .i64 p]), some db]) := by
  have hS := hv.2.1
  have hw := stand_range hv hm hx.1.1
  obtain ⟨f1, f2, f3, f4, f5⟩ := few_facts (hx.2 p hp)
  have hlo : 0 ≤ loE (x.s p) ∧ loE (x.s p) ≤ hiE (x.s p) ∧ hiE (x.s p) ≤ 63 := f4
  refine callR (E := E) E_ok Tryd.func98 rfl ?_
  refine And.intro ?_ ?_
  · simp [AllP, under, gB, wB, inR_iff, IntKind.bits]
  refine (t74 t hv x.h hx.1.1 m hm).use [0, 1, 2, 3, 4, 5] ?_ (by (repeat' (first | exact trivial | exact rfl | exact fun _ _ => rfl | exact Or.inl rfl | refine And.intro ?_ ?_))) rfl
  refine And.intro ?_ ?_
  · simp [AllP, under, gB, wB, inR_iff, IntKind.bits]
    omega
  rw [s4_get x p (by omega)]
  refine (t86 (x.s p) (hx.2 p hp)).use [9] ?_ (by (repeat' (first | exact trivial | exact rfl | exact fun _ _ => rfl | exact Or.inl rfl | refine And.intro ?_ ?_))) rfl
  refine And.intro ?_ ?_
  · simp [AllP, under, gB, wB, inR_iff, IntKind.bits]
    omega
  exact ent_tau [0, 1, 2, 3, 4, 5, 6, 7, 8, 9] ⟨by (repeat' (first | exact trivial | exact rfl | exact fun _ _ => rfl | exact Or.inl rfl | refine And.intro ?_ ?_)), by (repeat' (first | exact trivial | exact rfl | exact congrArg (SV.int .i64) (Int.natCast_succ _).symm | refine And.intro ?_ ?_)), rfl⟩

def a73 (t : TD) (m : Int) (x : Tr) : Int := t.stand x.h m
def b73 (t : TD) (m : Int) (x : Tr) : Int := t.stand x.h m
theorem see73 (t : TD) (hv : t.Valid) (m : Int) (hm : t.isMin m) (x : Tr) (hx : fullTr t x) (lo hi : Int) (sm : Bool) :
    CallP Tryd.prog 112 [.ptr 8 0, trv x] [some (.roc [.osl t.bM 1 3 t.nM t.cM, .osl t.bS 2 2 t.nS t.cS, .osl t.bL 3 4 t.nL t.cL, .map 4]),
  some (.roa 3 t.nM (row3 t.mi t.mlo t.mhi)), some (.roa 2 t.nS (row2 t.slo t.shi)), some (.roa 4 t.nL (row4 t.lp t.lm t.llo t.lhi)), some (.memo 5 t.F []),
  some (.glob 0 [.int .i64 0, .int .i64 1, .int .i64 3, .int .i64 6, .int .i64 9, .int .i64 11, .int .i64 12]),
  some (.roc [.ptr 0 0]), some (.roc [.int .i64 m]), some (.cells [.int .i64 lo, .int .i64 hi, .bool sm, .fn (.func 73) [] [.ptr 6 0, .ptr 7 0]])]
      (Ret (.tup []) [some (.roc [.osl t.bM 1 3 t.nM t.cM, .osl t.bS 2 2 t.nS t.cS, .osl t.bL 3 4 t.nL t.cL, .map 4]),
  some (.roa 3 t.nM (row3 t.mi t.mlo t.mhi)), some (.roa 2 t.nS (row2 t.slo t.shi)), some (.roa 4 t.nL (row4 t.lp t.lm t.llo t.lhi)), some (.memo 5 t.F []),
  some (.glob 0 [.int .i64 0, .int .i64 1, .int .i64 3, .int .i64 6, .int .i64 9, .int .i64 11, .int .i64 12]),
  some (.roc [.ptr 0 0]), some (.roc [.int .i64 m]), some (.cells [.int .i64 (seeLo sm lo (a73 t m x)), .int .i64 (seeHi sm hi (b73 t m x)), .bool true, .fn (.func 73) [] [.ptr 6 0, .ptr 7 0]])]) := by
  refine callR (E := E) E_ok Tryd.func112 rfl ?_
  refine And.intro ?_ ?_
  · simp [AllP, under, gB, wB, inR_iff, IntKind.bits]
  refine drawP E_ok [8, 9] pl112_1 (by kernel_rfl) ?_
  refine And.intro (And.intro ?_ ?_) trivial
  · simp [AllP, under, gB, wB, inR_iff, IntKind.bits]
  refine (t73 t hv m hm x hx.1).use [0, 1, 2, 3, 4, 5, 6, 7] ?_ (by (repeat' (first | exact trivial | exact rfl | exact fun _ _ => rfl | exact Or.inl rfl | refine And.intro ?_ ?_))) rfl
  refine And.intro ?_ (And.intro rfl ?_)
  · simp [AllP, under, gB, wB, inR_iff, IntKind.bits]
  refine And.intro ?_ (And.intro (fun hs => ?_) (fun hs => ?_))
  · simp [AllP, under, gB, wB, inR_iff, IntKind.bits]
  · have hs' : sm = false := by simpa using hs
    subst hs'
    refine And.intro ?_ ?_
    · simp [AllP, under, gB, wB, inR_iff, IntKind.bits]
    refine drawP E_ok [] pl112_4s (by kernel_rfl) ?_
    refine And.intro (And.intro (And.intro ?_ trivial) trivial) (And.intro (And.intro (And.intro ?_ trivial) trivial) trivial)
    · refine And.intro ?_ ?_
      · simp [AllP, under, gB, wB, inR_iff, IntKind.bits]
      refine And.intro ?_ ?_
      · exact rfl
      refine And.intro ?_ ?_
      · simp [AllP, under, gB, wB, inR_iff, IntKind.bits]
      refine ent_tau [0, 1, 2, 3, 4, 5, 6, 7, 8] ⟨?_, by (repeat' (first | exact trivial | exact rfl | exact congrArg (SV.int .i64) (Int.natCast_succ _).symm | refine And.intro ?_ ?_)), rfl⟩
      (repeat' (first | exact trivial | exact rfl | exact fun _ _ => rfl | exact Or.inl rfl | refine And.intro ?_ ?_))
      refine cells_eq ?_ ?_
      · simp only [seeLo, a73, reduceCtorEq, if_true, if_false]
        try (repeat' split)
        all_goals omega
      · simp only [seeHi, b73, reduceCtorEq, if_true, if_false]
        try (repeat' split)
        all_goals omega
    · refine And.intro ?_ ?_
      · simp [AllP, under, gB, wB, inR_iff, IntKind.bits]
      refine And.intro ?_ ?_
      · exact rfl
      refine And.intro ?_ ?_
      · simp [AllP, under, gB, wB, inR_iff, IntKind.bits]
      refine ent_tau [0, 1, 2, 3, 4, 5, 6, 7, 8] ⟨?_, by (repeat' (first | exact trivial | exact rfl | exact congrArg (SV.int .i64) (Int.natCast_succ _).symm | refine And.intro ?_ ?_)), rfl⟩
      (repeat' (first | exact trivial | exact rfl | exact fun _ _ => rfl | exact Or.inl rfl | refine And.intro ?_ ?_))
      refine cells_eq ?_ ?_
      · simp only [seeLo, a73, reduceCtorEq, if_true, if_false]
        try (repeat' split)
        all_goals omega
      · simp only [seeHi, b73, reduceCtorEq, if_true, if_false]
        try (repeat' split)
        all_goals omega
  · have hs' : sm = true := by simpa using hs
    subst hs'
    refine And.intro ?_ ?_
    · simp [AllP, under, gB, wB, inR_iff, IntKind.bits]
    refine drawP E_ok [] pl112_4s (by kernel_rfl) ?_
    refine And.intro (And.intro (And.intro ?_ trivial) trivial) (And.intro (And.intro (And.intro ?_ trivial) trivial) trivial)
    · refine And.intro ?_ ?_
      · simp [AllP, under, gB, wB, inR_iff, IntKind.bits]
      refine And.intro ?_ ?_
      · exact rfl
      refine And.intro ?_ ?_
      · simp [AllP, under, gB, wB, inR_iff, IntKind.bits]
      refine ent_tau [0, 1, 2, 3, 4, 5, 6, 7, 8] ⟨?_, by (repeat' (first | exact trivial | exact rfl | exact congrArg (SV.int .i64) (Int.natCast_succ _).symm | refine And.intro ?_ ?_)), rfl⟩
      (repeat' (first | exact trivial | exact rfl | exact fun _ _ => rfl | exact Or.inl rfl | refine And.intro ?_ ?_))
      refine cells_eq ?_ ?_
      · simp only [seeLo, a73, reduceCtorEq, if_true, if_false]
        try (repeat' split)
        all_goals omega
      · simp only [seeHi, b73, reduceCtorEq, if_true, if_false]
        try (repeat' split)
        all_goals omega
    · refine And.intro ?_ ?_
      · simp [AllP, under, gB, wB, inR_iff, IntKind.bits]
      refine And.intro ?_ ?_
      · exact rfl
      refine And.intro ?_ ?_
      · simp [AllP, under, gB, wB, inR_iff, IntKind.bits]
      refine ent_tau [0, 1, 2, 3, 4, 5, 6, 7, 8] ⟨?_, by (repeat' (first | exact trivial | exact rfl | exact congrArg (SV.int .i64) (Int.natCast_succ _).symm | refine And.intro ?_ ?_)), rfl⟩
      (repeat' (first | exact trivial | exact rfl | exact fun _ _ => rfl | exact Or.inl rfl | refine And.intro ?_ ?_))
      refine cells_eq ?_ ?_
      · simp only [seeLo, a73, reduceCtorEq, if_true, if_false]
        try (repeat' split)
        all_goals omega
      · simp only [seeHi, b73, reduceCtorEq, if_true, if_false]
        try (repeat' split)
        all_goals omega
theorem span73 (t : TD) (hv : t.Valid) (m : Int) (hm : t.isMin m) (g : List Tr) (hg : ∀ x ∈ g, fullTr t x) (hl : g.length ≤ 1000) (cp : Nat) :
    CallP Tryd.prog 72 [.slice 8 8 0 g.length cp, .fn (.func 73) [] [.ptr 6 0, .ptr 7 0]] [some (.roc [.osl t.bM 1 3 t.nM t.cM, .osl t.bS 2 2 t.nS t.cS, .osl t.bL 3 4 t.nL t.cL, .map 4]),
  some (.roa 3 t.nM (row3 t.mi t.mlo t.mhi)), some (.roa 2 t.nS (row2 t.slo t.shi)), some (.roa 4 t.nL (row4 t.lp t.lm t.llo t.lhi)), some (.memo 5 t.F []),
  some (.glob 0 [.int .i64 0, .int .i64 1, .int .i64 3, .int .i64 6, .int .i64 9, .int .i64 11, .int .i64 12]),
  some (.roc [.ptr 0 0]), some (.roc [.int .i64 m]), some (.roa 8 g.length (rows g))]
      (Ret (.agg [.int .i64 (hulLo (a73 t m) g g.length), .int .i64 (hulHi (b73 t m) g g.length)]) [some (.roc [.osl t.bM 1 3 t.nM t.cM, .osl t.bS 2 2 t.nS t.cS, .osl t.bL 3 4 t.nL t.cL, .map 4]),
  some (.roa 3 t.nM (row3 t.mi t.mlo t.mhi)), some (.roa 2 t.nS (row2 t.slo t.shi)), some (.roa 4 t.nL (row4 t.lp t.lm t.llo t.lhi)), some (.memo 5 t.F []),
  some (.glob 0 [.int .i64 0, .int .i64 1, .int .i64 3, .int .i64 6, .int .i64 9, .int .i64 11, .int .i64 12]),
  some (.roc [.ptr 0 0]), some (.roc [.int .i64 m]), some (.roa 8 g.length (rows g))]) := by
  refine callR (E := E) E_ok Tryd.func72 rfl ?_
  refine And.intro ?_ ?_
  · simp [AllP, under, gB, wB, inR_iff, IntKind.bits]
  refine loopP E_ok [0, 1, 4, 5, 10, 11] (fun k : Nat => [(12, .int .i64 k)]) (fun k H => H.set 10 (some (.cells [.int .i64 (hulLo (a73 t m) g k), .int .i64 (hulHi (b73 t m) g k), .bool (nz k), .fn (.func 73) [] [.ptr 6 0, .ptr 7 0]])))
    (fun k => k ≤ g.length) (fun k => g.length - k) 0 (Nat.zero_le _) ?_ ?_
  · exact ent_tau [0, 1, 2, 3, 4, 5, 6, 7, 8, 9, 10] ⟨by (repeat' (first | exact trivial | exact rfl | exact fun _ _ => rfl | exact Or.inl rfl | refine And.intro ?_ ?_)), by (repeat' (first | exact trivial | exact rfl | exact congrArg (SV.int .i64) (Int.natCast_succ _).symm | refine And.intro ?_ ?_)), rfl⟩
  · intro k hk
    refine And.intro ?_ (And.intro (fun hlt => ?_) (fun hlt => ?_))
    · simp [AllP, under, gB, wB, inR_iff, IntKind.bits]
    · have hlt' : k < g.length := by simpa using hlt
      have ek : (0 + (k : Int).toNat) = k := by omega
      have hgk := hg _ (getD_mem hlt')
      refine And.intro ?_ ?_
      · simp [AllP, under, gB, wB, inR_iff, IntKind.bits]
        omega
      rw [ek]
      refine (see73 t hv m hm (g.getD k tr0) hgk _ _ _).use [0, 1, 2, 3, 4, 5, 6, 7, 10] ?_ (by (repeat' (first | exact trivial | exact rfl | exact fun _ _ => rfl | exact Or.inl rfl | refine And.intro ?_ ?_))) rfl
      refine And.intro ?_ ⟨k + 1, hlt', by omega, ?_⟩
      · simp [AllP, under, gB, wB, inR_iff, IntKind.bits]
        omega
      · exact ent_tau [0, 1, 2, 3, 4, 5, 6, 7, 8, 9, 10] ⟨by (repeat' (first | exact trivial | exact rfl | exact fun _ _ => rfl | exact Or.inl rfl | refine And.intro ?_ ?_)), by (repeat' (first | exact trivial | exact rfl | exact congrArg (SV.int .i64) (Int.natCast_succ _).symm | refine And.intro ?_ ?_)), rfl⟩
    · have hkl : k = g.length := by
        have : ¬ (k < g.length) := by simpa using hlt
        omega
      subst hkl
      refine And.intro ?_ ?_
      · simp [AllP, under, gB, wB, inR_iff, IntKind.bits]
      refine And.intro trivial ?_
      exact ent_tau [0, 1, 2, 3, 4, 5, 6, 7, 8] ⟨by (repeat' (first | exact trivial | exact rfl | exact fun _ _ => rfl | exact Or.inl rfl | refine And.intro ?_ ?_)), by (repeat' (first | exact trivial | exact rfl | exact congrArg (SV.int .i64) (Int.natCast_succ _).symm | refine And.intro ?_ ?_)), rfl⟩

def a85 (_ : TD) (p : Nat) (x : Tr) : Int := loE (x.s p)
def b85 (_ : TD) (p : Nat) (x : Tr) : Int := hiE (x.s p)
theorem see85 (t : TD) (hv : t.Valid) (p : Nat) (hp : p < t.nS) (x : Tr) (hx : fullTr t x) (lo hi : Int) (sm : Bool) :
    CallP Tryd.prog 112 [.ptr 8 0, trv x] [some (.roc [.osl t.bM 1 3 t.nM t.cM, .osl t.bS 2 2 t.nS t.cS, .osl t.bL 3 4 t.nL t.cL, .map 4]),
  some (.roa 3 t.nM (row3 t.mi t.mlo t.mhi)), some (.roa 2 t.nS (row2 t.slo t.shi)), some (.roa 4 t.nL (row4 t.lp t.lm t.llo t.lhi)), some (.memo 5 t.F []),
  some (.glob 0 [.int .i64 0, .int .i64 1, .int .i64 3, .int .i64 6, .int .i64 9, .int .i64 11, .int .i64 12]),
  some (.roc [.int .i64 p]), some db, some (.cells [.int .i64 lo, .int .i64 hi, .bool sm, .fn (.func 85) [] [.ptr 6 0]])]
      (Ret (.tup []) [some (.roc [.osl t.bM 1 3 t.nM t.cM, .osl t.bS 2 2 t.nS t.cS, .osl t.bL 3 4 t.nL t.cL, .map 4]),
  some (.roa 3 t.nM (row3 t.mi t.mlo t.mhi)), some (.roa 2 t.nS (row2 t.slo t.shi)), some (.roa 4 t.nL (row4 t.lp t.lm t.llo t.lhi)), some (.memo 5 t.F []),
  some (.glob 0 [.int .i64 0, .int .i64 1, .int .i64 3, .int .i64 6, .int .i64 9, .int .i64 11, .int .i64 12]),
  some (.roc [.int .i64 p]), some db, some (.cells [.int .i64 (seeLo sm lo (a85 t p x)), .int .i64 (seeHi sm hi (b85 t p x)), .bool true, .fn (.func 85) [] [.ptr 6 0]])]) := by
  refine callR (E := E) E_ok Tryd.func112 rfl ?_
  refine And.intro ?_ ?_
  · simp [AllP, under, gB, wB, inR_iff, IntKind.bits]
  refine drawP E_ok [8, 9] pl112_1 (by kernel_rfl) ?_
  refine And.intro (And.intro ?_ ?_) trivial
  · simp [AllP, under, gB, wB, inR_iff, IntKind.bits]
  refine (t85 t hv p hp x hx).use [6, 7] ?_ (by (repeat' (first | exact trivial | exact rfl | exact fun _ _ => rfl | exact Or.inl rfl | refine And.intro ?_ ?_))) rfl
  refine And.intro ?_ (And.intro rfl ?_)
  · simp [AllP, under, gB, wB, inR_iff, IntKind.bits]
  refine And.intro ?_ (And.intro (fun hs => ?_) (fun hs => ?_))
  · simp [AllP, under, gB, wB, inR_iff, IntKind.bits]
  · have hs' : sm = false := by simpa using hs
    subst hs'
    refine And.intro ?_ ?_
    · simp [AllP, under, gB, wB, inR_iff, IntKind.bits]
    refine drawP E_ok [] pl112_4s (by kernel_rfl) ?_
    refine And.intro (And.intro (And.intro ?_ trivial) trivial) (And.intro (And.intro (And.intro ?_ trivial) trivial) trivial)
    · refine And.intro ?_ ?_
      · simp [AllP, under, gB, wB, inR_iff, IntKind.bits]
      refine And.intro ?_ ?_
      · exact rfl
      refine And.intro ?_ ?_
      · simp [AllP, under, gB, wB, inR_iff, IntKind.bits]
      refine ent_tau [0, 1, 2, 3, 4, 5, 6, 7, 8] ⟨?_, by (repeat' (first | exact trivial | exact rfl | exact congrArg (SV.int .i64) (Int.natCast_succ _).symm | refine And.intro ?_ ?_)), rfl⟩
      (repeat' (first | exact trivial | exact rfl | exact fun _ _ => rfl | exact Or.inl rfl | refine And.intro ?_ ?_))
      refine cells_eq ?_ ?_
      · simp only [seeLo, a85, reduceCtorEq, if_true, if_false]
        try (repeat' split)
        all_goals omega
      · simp only [seeHi, b85, reduceCtorEq, if_true, if_false]
        try (repeat' split)
        all_goals omega
    · refine And.intro ?_ ?_
      · simp [AllP, under, gB, wB, inR_iff, IntKind.bits]
      refine And.intro ?_ ?_
      · exact rfl
      refine And.intro ?_ ?_
      · simp [AllP, under, gB, wB, inR_iff, IntKind.bits]
      refine ent_tau [0, 1, 2, 3, 4, 5, 6, 7, 8] ⟨?_, by (repeat' (first | exact trivial | exact rfl | exact congrArg (SV.int .i64) (Int.natCast_succ _).symm | refine And.intro ?_ ?_)), rfl⟩
      (repeat' (first | exact trivial | exact rfl | exact fun _ _ => rfl | exact Or.inl rfl | refine And.intro ?_ ?_))
      refine cells_eq ?_ ?_
      · simp only [seeLo, a85, reduceCtorEq, if_true, if_false]
        try (repeat' split)
        all_goals omega
      · simp only [seeHi, b85, reduceCtorEq, if_true, if_false]
        try (repeat' split)
        all_goals omega
  · have hs' : sm = true := by simpa using hs
    subst hs'
    refine And.intro ?_ ?_
    · simp [AllP, under, gB, wB, inR_iff, IntKind.bits]
    refine drawP E_ok [] pl112_4s (by kernel_rfl) ?_
    refine And.intro (And.intro (And.intro ?_ trivial) trivial) (And.intro (And.intro (And.intro ?_ trivial) trivial) trivial)
    · refine And.intro ?_ ?_
      · simp [AllP, under, gB, wB, inR_iff, IntKind.bits]
      refine And.intro ?_ ?_
      · exact rfl
      refine And.intro ?_ ?_
      · simp [AllP, under, gB, wB, inR_iff, IntKind.bits]
      refine ent_tau [0, 1, 2, 3, 4, 5, 6, 7, 8] ⟨?_, by (repeat' (first | exact trivial | exact rfl | exact congrArg (SV.int .i64) (Int.natCast_succ _).symm | refine And.intro ?_ ?_)), rfl⟩
      (repeat' (first | exact trivial | exact rfl | exact fun _ _ => rfl | exact Or.inl rfl | refine And.intro ?_ ?_))
      refine cells_eq ?_ ?_
      · simp only [seeLo, a85, reduceCtorEq, if_true, if_false]
        try (repeat' split)
        all_goals omega
      · simp only [seeHi, b85, reduceCtorEq, if_true, if_false]
        try (repeat' split)
        all_goals omega
    · refine And.intro ?_ ?_
      · simp [AllP, under, gB, wB, inR_iff, IntKind.bits]
      refine And.intro ?_ ?_
      · exact rfl
      refine And.intro ?_ ?_
      · simp [AllP, under, gB, wB, inR_iff, IntKind.bits]
      refine ent_tau [0, 1, 2, 3, 4, 5, 6, 7, 8] ⟨?_, by (repeat' (first | exact trivial | exact rfl | exact congrArg (SV.int .i64) (Int.natCast_succ _).symm | refine And.intro ?_ ?_)), rfl⟩
      (repeat' (first | exact trivial | exact rfl | exact fun _ _ => rfl | exact Or.inl rfl | refine And.intro ?_ ?_))
      refine cells_eq ?_ ?_
      · simp only [seeLo, a85, reduceCtorEq, if_true, if_false]
        try (repeat' split)
        all_goals omega
      · simp only [seeHi, b85, reduceCtorEq, if_true, if_false]
        try (repeat' split)
        all_goals omega
theorem span85 (t : TD) (hv : t.Valid) (p : Nat) (hp : p < t.nS) (g : List Tr) (hg : ∀ x ∈ g, fullTr t x) (hl : g.length ≤ 1000) (cp : Nat) :
    CallP Tryd.prog 72 [.slice 8 8 0 g.length cp, .fn (.func 85) [] [.ptr 6 0]] [some (.roc [.osl t.bM 1 3 t.nM t.cM, .osl t.bS 2 2 t.nS t.cS, .osl t.bL 3 4 t.nL t.cL, .map 4]),
  some (.roa 3 t.nM (row3 t.mi t.mlo t.mhi)), some (.roa 2 t.nS (row2 t.slo t.shi)), some (.roa 4 t.nL (row4 t.lp t.lm t.llo t.lhi)), some (.memo 5 t.F []),
  some (.glob 0 [.int .i64 0, .int .i64 1, .int .i64 3, .int .i64 6, .int .i64 9, .int .i64 11, .int .i64 12]),
  some (.roc [.int .i64 p]), some db, some (.roa 8 g.length (rows g))]
      (Ret (.agg [.int .i64 (hulLo (a85 t p) g g.length), .int .i64 (hulHi (b85 t p) g g.length)]) [some (.roc [.osl t.bM 1 3 t.nM t.cM, .osl t.bS 2 2 t.nS t.cS, .osl t.bL 3 4 t.nL t.cL, .map 4]),
  some (.roa 3 t.nM (row3 t.mi t.mlo t.mhi)), some (.roa 2 t.nS (row2 t.slo t.shi)), some (.roa 4 t.nL (row4 t.lp t.lm t.llo t.lhi)), some (.memo 5 t.F []),
  some (.glob 0 [.int .i64 0, .int .i64 1, .int .i64 3, .int .i64 6, .int .i64 9, .int .i64 11, .int .i64 12]),
  some (.roc [.int .i64 p]), some db, some (.roa 8 g.length (rows g))]) := by
  refine callR (E := E) E_ok Tryd.func72 rfl ?_
  refine And.intro ?_ ?_
  · simp [AllP, under, gB, wB, inR_iff, IntKind.bits]
  refine loopP E_ok [0, 1, 4, 5, 10, 11] (fun k : Nat => [(12, .int .i64 k)]) (fun k H => H.set 10 (some (.cells [.int .i64 (hulLo (a85 t p) g k), .int .i64 (hulHi (b85 t p) g k), .bool (nz k), .fn (.func 85) [] [.ptr 6 0]])))
    (fun k => k ≤ g.length) (fun k => g.length - k) 0 (Nat.zero_le _) ?_ ?_
  · exact ent_tau [0, 1, 2, 3, 4, 5, 6, 7, 8, 9, 10] ⟨by (repeat' (first | exact trivial | exact rfl | exact fun _ _ => rfl | exact Or.inl rfl | refine And.intro ?_ ?_)), by (repeat' (first | exact trivial | exact rfl | exact congrArg (SV.int .i64) (Int.natCast_succ _).symm | refine And.intro ?_ ?_)), rfl⟩
  · intro k hk
    refine And.intro ?_ (And.intro (fun hlt => ?_) (fun hlt => ?_))
    · simp [AllP, under, gB, wB, inR_iff, IntKind.bits]
    · have hlt' : k < g.length := by simpa using hlt
      have ek : (0 + (k : Int).toNat) = k := by omega
      have hgk := hg _ (getD_mem hlt')
      refine And.intro ?_ ?_
      · simp [AllP, under, gB, wB, inR_iff, IntKind.bits]
        omega
      rw [ek]
      refine (see85 t hv p hp (g.getD k tr0) hgk _ _ _).use [0, 1, 2, 3, 4, 5, 6, 7, 10] ?_ (by (repeat' (first | exact trivial | exact rfl | exact fun _ _ => rfl | exact Or.inl rfl | refine And.intro ?_ ?_))) rfl
      refine And.intro ?_ ⟨k + 1, hlt', by omega, ?_⟩
      · simp [AllP, under, gB, wB, inR_iff, IntKind.bits]
        omega
      · exact ent_tau [0, 1, 2, 3, 4, 5, 6, 7, 8, 9, 10] ⟨by (repeat' (first | exact trivial | exact rfl | exact fun _ _ => rfl | exact Or.inl rfl | refine And.intro ?_ ?_)), by (repeat' (first | exact trivial | exact rfl | exact congrArg (SV.int .i64) (Int.natCast_succ _).symm | refine And.intro ?_ ?_)), rfl⟩
    · have hkl : k = g.length := by
        have : ¬ (k < g.length) := by simpa using hlt
        omega
      subst hkl
      refine And.intro ?_ ?_
      · simp [AllP, under, gB, wB, inR_iff, IntKind.bits]
      refine And.intro trivial ?_
      exact ent_tau [0, 1, 2, 3, 4, 5, 6, 7, 8] ⟨by (repeat' (first | exact trivial | exact rfl | exact fun _ _ => rfl | exact Or.inl rfl | refine And.intro ?_ ?_)), by (repeat' (first | exact trivial | exact rfl | exact congrArg (SV.int .i64) (Int.natCast_succ _).symm | refine And.intro ?_ ?_)), rfl⟩

def a98 (t : TD) (m : Int) (p : Nat) (x : Tr) : Int := max0 (t.stand x.h m - hiE (x.s p))
def b98 (t : TD) (m : Int) (p : Nat) (x : Tr) : Int := max0 (t.stand x.h m - loE (x.s p))
theorem see98 (t : TD) (hv : t.Valid) (m : Int) (p : Nat) (hm : t.isMin m) (hp : p < t.nS) (x : Tr) (hx : fullTr t x) (lo hi : Int) (sm : Bool) :
    CallP Tryd.prog 112 [.ptr 10 0, trv x] [some (.roc [.osl t.bM 1 3 t.nM t.cM, .osl t.bS 2 2 t.nS t.cS, .osl t.bL 3 4 t.nL t.cL, .map 4]),
  some (.roa 3 t.nM (row3 t.mi t.mlo t.mhi)), some (.roa 2 t.nS (row2 t.slo t.shi)), some (.roa 4 t.nL (row4 t.lp t.lm t.llo t.lhi)), some (.memo 5 t.F []),
  some (.glob 0 [.int .i64 0, .int .i64 1, .int .i64 3, .int .i64 6, .int .i64 9, .int .i64 11, .int .i64 12]),
  some (.roc [.ptr 0 0]), some (.roc [.int .i64 m]), some (.roc [.int .i64 p]), some db, some (.cells [.int .i64 lo, .int .i64 hi, .bool sm, .fn (.func 98) [] [.ptr 6 0, .ptr 7 0, .ptr 8 0]])]
      (Ret (.tup []) [some (.roc [.osl t.bM 1 3 t.nM t.cM, .osl t.bS 2 2 t.nS t.cS, .osl t.bL 3 4 t.nL t.cL, .map 4]),
  some (.roa 3 t.nM (row3 t.mi t.mlo t.mhi)), some (.roa 2 t.nS (row2 t.slo t.shi)), some (.roa 4 t.nL (row4 t.lp t.lm t.llo t.lhi)), some (.memo 5 t.F []),
  some (.glob 0 [.int .i64 0, .int .i64 1, .int .i64 3, .int .i64 6, .int .i64 9, .int .i64 11, .int .i64 12]),
  some (.roc [.ptr 0 0]), some (.roc [.int .i64 m]), some (.roc [.int .i64 p]), some db, some (.cells [.int .i64 (seeLo sm lo (a98 t m p x)), .int .i64 (seeHi sm hi (b98 t m p x)), .bool true, .fn (.func 98) [] [.ptr 6 0, .ptr 7 0, .ptr 8 0]])]) := by
  refine callR (E := E) E_ok Tryd.func112 rfl ?_
  refine And.intro ?_ ?_
  · simp [AllP, under, gB, wB, inR_iff, IntKind.bits]
  refine drawP E_ok [10, 11] pl112_1 (by kernel_rfl) ?_
  refine And.intro (And.intro ?_ ?_) trivial
  · simp [AllP, under, gB, wB, inR_iff, IntKind.bits]
  refine (t98 t hv m p hm hp x hx).use [0, 1, 2, 3, 4, 5, 6, 7, 8, 9] ?_ (by (repeat' (first | exact trivial | exact rfl | exact fun _ _ => rfl | exact Or.inl rfl | refine And.intro ?_ ?_))) rfl
  refine And.intro ?_ (And.intro rfl ?_)
  · simp [AllP, under, gB, wB, inR_iff, IntKind.bits]
  refine And.intro ?_ (And.intro (fun hs => ?_) (fun hs => ?_))
  · simp [AllP, under, gB, wB, inR_iff, IntKind.bits]
  · have hs' : sm = false := by simpa using hs
    subst hs'
    refine And.intro ?_ ?_
    · simp [AllP, under, gB, wB, inR_iff, IntKind.bits]
    refine drawP E_ok [] pl112_4s (by kernel_rfl) ?_
    refine And.intro (And.intro (And.intro ?_ trivial) trivial) (And.intro (And.intro (And.intro ?_ trivial) trivial) trivial)
    · refine And.intro ?_ ?_
      · simp [AllP, under, gB, wB, inR_iff, IntKind.bits]
      refine And.intro ?_ ?_
      · exact rfl
      refine And.intro ?_ ?_
      · simp [AllP, under, gB, wB, inR_iff, IntKind.bits]
      refine ent_tau [0, 1, 2, 3, 4, 5, 6, 7, 8, 9, 10] ⟨?_, by (repeat' (first | exact trivial | exact rfl | exact congrArg (SV.int .i64) (Int.natCast_succ _).symm | refine And.intro ?_ ?_)), rfl⟩
      (repeat' (first | exact trivial | exact rfl | exact fun _ _ => rfl | exact Or.inl rfl | refine And.intro ?_ ?_))
      refine cells_eq ?_ ?_
      · simp only [seeLo, a98, reduceCtorEq, if_true, if_false]
        try (repeat' split)
        all_goals omega
      · simp only [seeHi, b98, reduceCtorEq, if_true, if_false]
        try (repeat' split)
        all_goals omega
    · refine And.intro ?_ ?_
      · simp [AllP, under, gB, wB, inR_iff, IntKind.bits]
      refine And.intro ?_ ?_
      · exact rfl
      refine And.intro ?_ ?_
      · simp [AllP, under, gB, wB, inR_iff, IntKind.bits]
      refine ent_tau [0, 1, 2, 3, 4, 5, 6, 7, 8, 9, 10] ⟨?_, by (repeat' (first | exact trivial | exact rfl | exact congrArg (SV.int .i64) (Int.natCast_succ _).symm | refine And.intro ?_ ?_)), rfl⟩
      (repeat' (first | exact trivial | exact rfl | exact fun _ _ => rfl | exact Or.inl rfl | refine And.intro ?_ ?_))
      refine cells_eq ?_ ?_
      · simp only [seeLo, a98, reduceCtorEq, if_true, if_false]
        try (repeat' split)
        all_goals omega
      · simp only [seeHi, b98, reduceCtorEq, if_true, if_false]
        try (repeat' split)
        all_goals omega
  · have hs' : sm = true := by simpa using hs
    subst hs'
    refine And.intro ?_ ?_
    · simp [AllP, under, gB, wB, inR_iff, IntKind.bits]
    refine drawP E_ok [] pl112_4s (by kernel_rfl) ?_
    refine And.intro (And.intro (And.intro ?_ trivial) trivial) (And.intro (And.intro (And.intro ?_ trivial) trivial) trivial)
    · refine And.intro ?_ ?_
      · simp [AllP, under, gB, wB, inR_iff, IntKind.bits]
      refine And.intro ?_ ?_
      · exact rfl
      refine And.intro ?_ ?_
      · simp [AllP, under, gB, wB, inR_iff, IntKind.bits]
      refine ent_tau [0, 1, 2, 3, 4, 5, 6, 7, 8, 9, 10] ⟨?_, by (repeat' (first | exact trivial | exact rfl | exact congrArg (SV.int .i64) (Int.natCast_succ _).symm | refine And.intro ?_ ?_)), rfl⟩
      (repeat' (first | exact trivial | exact rfl | exact fun _ _ => rfl | exact Or.inl rfl | refine And.intro ?_ ?_))
      refine cells_eq ?_ ?_
      · simp only [seeLo, a98, reduceCtorEq, if_true, if_false]
        try (repeat' split)
        all_goals omega
      · simp only [seeHi, b98, reduceCtorEq, if_true, if_false]
        try (repeat' split)
        all_goals omega
    · refine And.intro ?_ ?_
      · simp [AllP, under, gB, wB, inR_iff, IntKind.bits]
      refine And.intro ?_ ?_
      · exact rfl
      refine And.intro ?_ ?_
      · simp [AllP, under, gB, wB, inR_iff, IntKind.bits]
      refine ent_tau [0, 1, 2, 3, 4, 5, 6, 7, 8, 9, 10] ⟨?_, by (repeat' (first | exact trivial | exact rfl | exact congrArg (SV.int .i64) (Int.natCast_succ _).symm | refine And.intro ?_ ?_)), rfl⟩
      (repeat' (first | exact trivial | exact rfl | exact fun _ _ => rfl | exact Or.inl rfl | refine And.intro ?_ ?_))
      refine cells_eq ?_ ?_
      · simp only [seeLo, a98, reduceCtorEq, if_true, if_false]
        try (repeat' split)
        all_goals omega
      · simp only [seeHi, b98, reduceCtorEq, if_true, if_false]
        try (repeat' split)
        all_goals omega
theorem span98 (t : TD) (hv : t.Valid) (m : Int) (p : Nat) (hm : t.isMin m) (hp : p < t.nS) (g : List Tr) (hg : ∀ x ∈ g, fullTr t x) (hl : g.length ≤ 1000) (cp : Nat) :
    CallP Tryd.prog 72 [.slice 10 8 0 g.length cp, .fn (.func 98) [] [.ptr 6 0, .ptr 7 0, .ptr 8 0]] [some (.roc [.osl t.bM 1 3 t.nM t.cM, .osl t.bS 2 2 t.nS t.cS, .osl t.bL 3 4 t.nL t.cL, .map 4]),
  some (.roa 3 t.nM (row3 t.mi t.mlo t.mhi)), some (.roa 2 t.nS (row2 t.slo t.shi)), some (.roa 4 t.nL (row4 t.lp t.lm t.llo t.lhi)), some (.memo 5 t.F []),
  some (.glob 0 [.int .i64 0, .int .i64 1, .int .i64 3, .int .i64 6, .int .i64 9, .int .i64 11, .int .i64 12]),
  some (.roc [.ptr 0 0]), some (.roc [.int .i64 m]), some (.roc [.int .i64 p]), some db, some (.roa 8 g.length (rows g))]
      (Ret (.agg [.int .i64 (hulLo (a98 t m p) g g.length), .int .i64 (hulHi (b98 t m p) g g.length)]) [some (.roc [.osl t.bM 1 3 t.nM t.cM, .osl t.bS 2 2 t.nS t.cS, .osl t.bL 3 4 t.nL t.cL, .map 4]),
  some (.roa 3 t.nM (row3 t.mi t.mlo t.mhi)), some (.roa 2 t.nS (row2 t.slo t.shi)), some (.roa 4 t.nL (row4 t.lp t.lm t.llo t.lhi)), some (.memo 5 t.F []),
  some (.glob 0 [.int .i64 0, .int .i64 1, .int .i64 3, .int .i64 6, .int .i64 9, .int .i64 11, .int .i64 12]),
  some (.roc [.ptr 0 0]), some (.roc [.int .i64 m]), some (.roc [.int .i64 p]), some db, some (.roa 8 g.length (rows g))]) := by
  refine callR (E := E) E_ok Tryd.func72 rfl ?_
  refine And.intro ?_ ?_
  · simp [AllP, under, gB, wB, inR_iff, IntKind.bits]
  refine loopP E_ok [0, 1, 4, 5, 10, 11] (fun k : Nat => [(12, .int .i64 k)]) (fun k H => H.set 12 (some (.cells [.int .i64 (hulLo (a98 t m p) g k), .int .i64 (hulHi (b98 t m p) g k), .bool (nz k), .fn (.func 98) [] [.ptr 6 0, .ptr 7 0, .ptr 8 0]])))
    (fun k => k ≤ g.length) (fun k => g.length - k) 0 (Nat.zero_le _) ?_ ?_
  · exact ent_tau [0, 1, 2, 3, 4, 5, 6, 7, 8, 9, 10, 11, 12] ⟨by (repeat' (first | exact trivial | exact rfl | exact fun _ _ => rfl | exact Or.inl rfl | refine And.intro ?_ ?_)), by (repeat' (first | exact trivial | exact rfl | exact congrArg (SV.int .i64) (Int.natCast_succ _).symm | refine And.intro ?_ ?_)), rfl⟩
  · intro k hk
    refine And.intro ?_ (And.intro (fun hlt => ?_) (fun hlt => ?_))
    · simp [AllP, under, gB, wB, inR_iff, IntKind.bits]
    · have hlt' : k < g.length := by simpa using hlt
      have ek : (0 + (k : Int).toNat) = k := by omega
      have hgk := hg _ (getD_mem hlt')
      refine And.intro ?_ ?_
      · simp [AllP, under, gB, wB, inR_iff, IntKind.bits]
        omega
      rw [ek]
      refine (see98 t hv m p hm hp (g.getD k tr0) hgk _ _ _).use [0, 1, 2, 3, 4, 5, 6, 7, 8, 9, 12] ?_ (by (repeat' (first | exact trivial | exact rfl | exact fun _ _ => rfl | exact Or.inl rfl | refine And.intro ?_ ?_))) rfl
      refine And.intro ?_ ⟨k + 1, hlt', by omega, ?_⟩
      · simp [AllP, under, gB, wB, inR_iff, IntKind.bits]
        omega
      · exact ent_tau [0, 1, 2, 3, 4, 5, 6, 7, 8, 9, 10, 11, 12] ⟨by (repeat' (first | exact trivial | exact rfl | exact fun _ _ => rfl | exact Or.inl rfl | refine And.intro ?_ ?_)), by (repeat' (first | exact trivial | exact rfl | exact congrArg (SV.int .i64) (Int.natCast_succ _).symm | refine And.intro ?_ ?_)), rfl⟩
    · have hkl : k = g.length := by
        have : ¬ (k < g.length) := by simpa using hlt
        omega
      subst hkl
      refine And.intro ?_ ?_
      · simp [AllP, under, gB, wB, inR_iff, IntKind.bits]
      refine And.intro trivial ?_
      exact ent_tau [0, 1, 2, 3, 4, 5, 6, 7, 8, 9, 10] ⟨by (repeat' (first | exact trivial | exact rfl | exact fun _ _ => rfl | exact Or.inl rfl | refine And.intro ?_ ?_)), by (repeat' (first | exact trivial | exact rfl | exact congrArg (SV.int .i64) (Int.natCast_succ _).symm | refine And.intro ?_ ?_)), rfl⟩
end Go.Proofs.YtipbempkngfdbaaDoor
/-
  Contract: tide.Height.
-/
namespace Go.Proofs.YtipbempkngfdbaaDoor
open Go Go.Sy
set_option linter.unusedSimpArgs false
set_option maxRecDepth 100000
set_option maxHeartbeats 4000000
attribute [local irreducible] CallP CodeP Ent YieldP
set_option maxHeartbeats 800000

/-- A tide's rows, and the two tables. -/
noncomputable def TD.HG (t : TD) : SHeap := [some (.roa 3 t.nM (row3 t.mi t.mlo t.mhi)), some (.roa 2 t.nS (row2 t.slo t.shi)), some (.roa 4 t.nL (row4 t.lp t.lm t.llo t.lhi)),
  some (.glob 0 [.int .i64 0, .int .i64 1, .int .i64 3, .int .i64 6, .int .i64 9, .int .i64 11, .int .i64 12]), some db]
theorem t71 (t : TD) (m : Int) (hv : t.Valid) : CallP Tryd.prog 71 [.ptr 0 0, .ptr 5 0] (t.shore ++ [some (.roc [.int .i64 m])]) (Ret (.bool (inB m (t.mi 0) (t.mi (t.nM - 1)))) (t.shore ++ [some (.roc [.int .i64 m])])) := by
  have hM := hv.1
  refine callR (E := E) E_ok Tryd.func71 rfl ?_
  refine And.intro ?_ ?_
  · simp [AllP, under, gB, wB, inR_iff, IntKind.bits]
  refine (t57 t (by omega) (by omega) m).use [0, 1, 2, 3, 4] ?_ (by (repeat' (first | exact trivial | exact rfl | exact fun _ _ => rfl | exact Or.inl rfl | refine And.intro ?_ ?_))) rfl
  refine And.intro ?_ ?_
  · simp [AllP, under, gB, wB, inR_iff, IntKind.bits]
  exact ent_tau [0, 1, 2, 3, 4, 5] ⟨by (repeat' (first | exact trivial | exact rfl | exact fun _ _ => rfl | exact Or.inl rfl | refine And.intro ?_ ?_)), by (repeat' (first | exact trivial | exact rfl | exact congrArg (SV.int .i64) (Int.natCast_succ _).symm | refine And.intro ?_ ?_)), rfl⟩
/-- What a function tells, and its error. -/
structure Told (α : Type) where
  v : α
  e : Int
open Classical in
noncomputable def TD.height (t : TD) (m : Int) : Told (Int × Int) :=
  if ¬ t.Valid then ⟨(0, 0), 1⟩ else if ¬ t.isMin m then ⟨(0, 0), 2⟩ else if t.all = [] then ⟨(0, 0), 10⟩ else ⟨(hulLo (fun x => t.stand x.h m) t.all t.all.length, hulHi (fun x => t.stand x.h m) t.all t.all.length), 0⟩
theorem t22 (t : TD) (m : Int) : CallP Tryd.prog 22 [t.A, .int .i64 m] t.HG (Ret (.tup [.agg [.int .i64 (t.height m).v.1, .int .i64 (t.height m).v.2], .int .i64 (t.height m).e]) t.HG) := by
  refine callD (E := E) E_ok Tryd.func22 rfl Tryd.func70 ⟨_, _, _, _, _, _, _, _, rfl, rfl, rfl⟩ rfl rfl ?_
  refine And.intro ?_ ?_
  · simp [AllP, under, gB, wB, inR_iff, IntKind.bits]
  refine CallP.frame (t44_1 t m 71 (.inl rfl) _ (t71 t m)) [0, 1, 2, 6] (by (repeat' (first | exact trivial | exact rfl | exact fun _ _ => rfl | exact Or.inl rfl | refine And.intro ?_ ?_))) (apartB_ok rfl) rfl ?_
  rintro ce h' (⟨hv, hb, rfl, rfl⟩ | ⟨hv, rfl, rfl⟩ | ⟨hv, hb, rfl, rfl⟩)
  · refine ⟨ownB_ok rfl, ?_⟩
    have hm : t.isMin m := inB_iff.1 hb
    refine And.intro ?_ ?_
    · simp [AllP, under, gB, wB, inR_iff, IntKind.bits]
    refine CallP.frame (t48 t hv) [9, 0, 1, 2, 10, 3] (by (repeat' (first | exact trivial | exact rfl | exact fun _ _ => rfl | exact Or.inl rfl | refine And.intro ?_ ?_))) (apartB_ok rfl) rfl ?_
    rintro ce h' (⟨h0, rfl, rfl⟩ | ⟨h0, cap, hc1, hc2, rfl, rfl⟩)
    · refine ⟨ownB_ok rfl, ?_⟩
      have e0 : t.height m = ⟨(0, 0), 10⟩ := by simp [TD.height, hv, hm, h0]
      refine And.intro ?_ ?_
      · simp [AllP, under, gB, wB, inR_iff, IntKind.bits]
      refine (t43_stop 0 10).use [8] ?_ (by (repeat' (first | exact trivial | exact rfl | exact fun _ _ => rfl | exact Or.inl rfl | refine And.intro ?_ ?_))) rfl
      refine And.intro ?_ ⟨_, _, ⟨rfl, rfl⟩, ?_⟩
      · simp [AllP, under, gB, wB, inR_iff, IntKind.bits]
      rw [e0]
      exact ent_tau [0, 1, 2, 3, 4] ⟨by (repeat' (first | exact trivial | exact rfl | exact fun _ _ => rfl | exact Or.inl rfl | refine And.intro ?_ ?_)), by (repeat' (first | exact trivial | exact rfl | exact congrArg (SV.int .i64) (Int.natCast_succ _).symm | refine And.intro ?_ ?_)), rfl⟩
    · refine ⟨ownB_ok rfl, ?_⟩
      have hne : ¬ t.all = [] := fun h => by rw [h] at h0; simp at h0
      have e0 : t.height m = ⟨(hulLo (fun x => t.stand x.h m) t.all t.all.length, hulHi (fun x => t.stand x.h m) t.all t.all.length), 0⟩ := by simp [TD.height, hv, hm, hne]
      have hlen := all_len hv
      have hgood := all_full hv
      refine And.intro ?_ ?_
      · simp [AllP, under, gB, wB, inR_iff, IntKind.bits]
      refine (span73 t hv m hm t.all hgood (by omega) cap).use [9, 0, 1, 2, 10, 3, 11, 6, 12] ?_ (by (repeat' (first | exact trivial | exact rfl | exact fun _ _ => rfl | exact Or.inl rfl | refine And.intro ?_ ?_))) rfl
      refine And.intro ?_ ?_
      · simp [AllP, under, gB, wB, inR_iff, IntKind.bits]
      refine (t43_nil 0).use [8] ?_ (by (repeat' (first | exact trivial | exact rfl | exact fun _ _ => rfl | exact Or.inl rfl | refine And.intro ?_ ?_))) rfl
      refine And.intro ?_ ⟨_, _, ⟨rfl, rfl⟩, ?_⟩
      · simp [AllP, under, gB, wB, inR_iff, IntKind.bits]
      rw [e0]
      exact ent_tau [0, 1, 2, 3, 4] ⟨by (repeat' (first | exact trivial | exact rfl | exact fun _ _ => rfl | exact Or.inl rfl | refine And.intro ?_ ?_)), by (repeat' (first | exact trivial | exact rfl | exact congrArg (SV.int .i64) (Int.natCast_succ _).symm | refine And.intro ?_ ?_)), rfl⟩
  · refine ⟨ownB_ok rfl, ?_⟩
    have e0 : t.height m = ⟨(0, 0), 1⟩ := by simp [TD.height, hv]
    refine And.intro ?_ ?_
    · simp [AllP, under, gB, wB, inR_iff, IntKind.bits]
    refine (t43_stop 0 1).use [8] ?_ (by (repeat' (first | exact trivial | exact rfl | exact fun _ _ => rfl | exact Or.inl rfl | refine And.intro ?_ ?_))) rfl
    refine And.intro ?_ ⟨_, _, ⟨rfl, rfl⟩, ?_⟩
    · simp [AllP, under, gB, wB, inR_iff, IntKind.bits]
    rw [e0]
    exact ent_tau [0, 1, 2, 3, 4] ⟨by (repeat' (first | exact trivial | exact rfl | exact fun _ _ => rfl | exact Or.inl rfl | refine And.intro ?_ ?_)), by (repeat' (first | exact trivial | exact rfl | exact congrArg (SV.int .i64) (Int.natCast_succ _).symm | refine And.intro ?_ ?_)), rfl⟩
  · refine ⟨ownB_ok rfl, ?_⟩
    have hm : ¬ t.isMin m := fun h => by rw [inB_iff.2 h] at hb; cases hb
    have e0 : t.height m = ⟨(0, 0), 2⟩ := by simp [TD.height, hv, hm]
    refine And.intro ?_ ?_
    · simp [AllP, under, gB, wB, inR_iff, IntKind.bits]
    refine (t43_stop 0 2).use [8] ?_ (by (repeat' (first | exact trivial | exact rfl | exact fun _ _ => rfl | exact Or.inl rfl | refine And.intro ?_ ?_))) rfl
    refine And.intro ?_ ⟨_, _, ⟨rfl, rfl⟩, ?_⟩
    · simp [AllP, under, gB, wB, inR_iff, IntKind.bits]
    rw [e0]
    exact ent_tau [0, 1, 2, 3, 4] ⟨by (repeat' (first | exact trivial | exact rfl | exact fun _ _ => rfl | exact Or.inl rfl | refine And.intro ?_ ?_)), by (repeat' (first | exact trivial | exact rfl | exact congrArg (SV.int .i64) (Int.natCast_succ _).symm | refine And.intro ?_ ?_)), rfl⟩
end Go.Proofs.YtipbempkngfdbaaDoor
/-
  Contracts: tide.Sand and tide.Depth.
-/
namespace Go.Proofs.YtipbempkngfdbaaDoor
open Go Go.Sy
set_option linter.unusedSimpArgs false
set_option maxRecDepth 100000
set_option maxHeartbeats 4000000
attribute [local irreducible] CallP CodeP Ent YieldP
set_option maxHeartbeats 800000

def TD.isPl (t : TD) (p : Int) : Prop := 0 ≤ p ∧ p ≤ t.nS - 1
theorem t84 (t : TD) (p : Int) (hv : t.Valid) : CallP Tryd.prog 84 [.ptr 0 0, .ptr 5 0] (t.shore ++ [some (.roc [.int .i64 p])]) (Ret (.bool (inB p 0 (t.nS - 1))) (t.shore ++ [some (.roc [.int .i64 p])])) := by
  have hS := hv.2.1
  refine callR (E := E) E_ok Tryd.func84 rfl ?_
  refine And.intro ?_ ?_
  · simp [AllP, under, gB, wB, inR_iff, IntKind.bits]
  refine (t46 t (by omega) p).use [0, 1, 2, 3, 4] ?_ (by (repeat' (first | exact trivial | exact rfl | exact fun _ _ => rfl | exact Or.inl rfl | refine And.intro ?_ ?_))) rfl
  refine And.intro ?_ ?_
  · simp [AllP, under, gB, wB, inR_iff, IntKind.bits]
  exact ent_tau [0, 1, 2, 3, 4, 5] ⟨by (repeat' (first | exact trivial | exact rfl | exact fun _ _ => rfl | exact Or.inl rfl | refine And.intro ?_ ?_)), by (repeat' (first | exact trivial | exact rfl | exact congrArg (SV.int .i64) (Int.natCast_succ _).symm | refine And.intro ?_ ?_)), rfl⟩
theorem t77 (t : TD) (p m : Int) (hv : t.Valid) : CallP Tryd.prog 77 [.ptr 0 0, .ptr 5 0, .ptr 6 0] (t.shore ++ [some (.roc [.int .i64 p]), some (.roc [.int .i64 m])]) (Ret (.bool (inB p 0 (t.nS - 1) && inB m (t.mi 0) (t.mi (t.nM - 1)))) (t.shore ++ [some (.roc [.int .i64 p]), some (.roc [.int .i64 m])])) := by
  have hS := hv.2.1
  have hM := hv.1
  refine callR (E := E) E_ok Tryd.func77 rfl ?_
  refine And.intro ?_ ?_
  · simp [AllP, under, gB, wB, inR_iff, IntKind.bits]
  refine (t46 t (by omega) p).use [0, 1, 2, 3, 4] ?_ (by (repeat' (first | exact trivial | exact rfl | exact fun _ _ => rfl | exact Or.inl rfl | refine And.intro ?_ ?_))) rfl
  refine And.intro ?_ (And.intro (fun hc => ?_) (fun hc => ?_))
  · simp [AllP, under, gB, wB, inR_iff, IntKind.bits]
  · refine (t57 t (by omega) (by omega) m).use [0, 1, 2, 3, 4] ?_ (by (repeat' (first | exact trivial | exact rfl | exact fun _ _ => rfl | exact Or.inl rfl | refine And.intro ?_ ?_))) rfl
    refine And.intro ?_ ?_
    · simp [AllP, under, gB, wB, inR_iff, IntKind.bits]
    refine ent_tau [0, 1, 2, 3, 4, 5, 6] ⟨by (repeat' (first | exact trivial | exact rfl | exact fun _ _ => rfl | exact Or.inl rfl | refine And.intro ?_ ?_)), ⟨rfl, ?_, trivial⟩, rfl⟩
    refine congrArg SV.bool ?_
    cases inB p 0 (t.nS - 1) <;> rfl
  · have hc' : inB p 0 (t.nS - 1) = false := by simpa [gB, wB] using hc
    refine And.intro ?_ ?_
    · simp [AllP, under, gB, wB, inR_iff, IntKind.bits]
      exact hc'
    refine ent_tau [0, 1, 2, 3, 4, 5, 6] ⟨by (repeat' (first | exact trivial | exact rfl | exact fun _ _ => rfl | exact Or.inl rfl | refine And.intro ?_ ?_)), ⟨rfl, ?_, trivial⟩, rfl⟩
    refine congrArg SV.bool ?_
    rw [hc']
    rfl
open Classical in
noncomputable def TD.sandT (t : TD) (p : Int) : Told (Int × Int) :=
  if ¬ t.Valid then ⟨(0, 0), 1⟩ else if ¬ t.isPl p then ⟨(0, 0), 2⟩ else if t.all = [] then ⟨(0, 0), 10⟩ else ⟨(hulLo (fun x => loE (x.s p.toNat)) t.all t.all.length, hulHi (fun x => hiE (x.s p.toNat)) t.all t.all.length), 0⟩
theorem t31 (t : TD) (p : Int) : CallP Tryd.prog 31 [t.A, .int .i64 p] t.HG (Ret (.tup [.agg [.int .i64 (t.sandT p).v.1, .int .i64 (t.sandT p).v.2], .int .i64 (t.sandT p).e]) t.HG) := by
  refine callD (E := E) E_ok Tryd.func31 rfl Tryd.func83 ⟨_, _, _, _, _, _, _, _, rfl, rfl, rfl⟩ rfl rfl ?_
  refine And.intro ?_ ?_
  · simp [AllP, under, gB, wB, inR_iff, IntKind.bits]
  refine CallP.frame (t44_1 t p 84 (.inr (.inl rfl)) _ (t84 t p)) [0, 1, 2, 6] (by (repeat' (first | exact trivial | exact rfl | exact fun _ _ => rfl | exact Or.inl rfl | refine And.intro ?_ ?_))) (apartB_ok rfl) rfl ?_
  rintro ce h' (⟨hv, hb, rfl, rfl⟩ | ⟨hv, rfl, rfl⟩ | ⟨hv, hb, rfl, rfl⟩)
  · refine ⟨ownB_ok rfl, ?_⟩
    have hm : t.isPl p := inB_iff.1 hb
    refine And.intro ?_ ?_
    · simp [AllP, under, gB, wB, inR_iff, IntKind.bits]
    refine CallP.frame (t48 t hv) [9, 0, 1, 2, 10, 3] (by (repeat' (first | exact trivial | exact rfl | exact fun _ _ => rfl | exact Or.inl rfl | refine And.intro ?_ ?_))) (apartB_ok rfl) rfl ?_
    rintro ce h' (⟨h0, rfl, rfl⟩ | ⟨h0, cap, hc1, hc2, rfl, rfl⟩)
    · refine ⟨ownB_ok rfl, ?_⟩
      have e0 : t.sandT p = ⟨(0, 0), 10⟩ := by simp [TD.sandT, hv, hm, h0]
      refine And.intro ?_ ?_
      · simp [AllP, under, gB, wB, inR_iff, IntKind.bits]
      refine (t43_stop 0 10).use [8] ?_ (by (repeat' (first | exact trivial | exact rfl | exact fun _ _ => rfl | exact Or.inl rfl | refine And.intro ?_ ?_))) rfl
      refine And.intro ?_ ⟨_, _, ⟨rfl, rfl⟩, ?_⟩
      · simp [AllP, under, gB, wB, inR_iff, IntKind.bits]
      rw [e0]
      exact ent_tau [0, 1, 2, 3, 4] ⟨by (repeat' (first | exact trivial | exact rfl | exact fun _ _ => rfl | exact Or.inl rfl | refine And.intro ?_ ?_)), by (repeat' (first | exact trivial | exact rfl | exact congrArg (SV.int .i64) (Int.natCast_succ _).symm | refine And.intro ?_ ?_)), rfl⟩
    · refine ⟨ownB_ok rfl, ?_⟩
      have hne : ¬ t.all = [] := fun h => by rw [h] at h0; simp at h0
      have e0 : t.sandT p = ⟨(hulLo (fun x => loE (x.s p.toNat)) t.all t.all.length, hulHi (fun x => hiE (x.s p.toNat)) t.all t.all.length), 0⟩ := by simp [TD.sandT, hv, hm, hne]
      have hlen := all_len hv
      obtain ⟨q, hq⟩ := Int.eq_ofNat_of_zero_le hm.1
      subst hq
      have hq2 := hm.2
      rw [Int.toNat_natCast] at e0
      refine And.intro ?_ ?_
      · simp [AllP, under, gB, wB, inR_iff, IntKind.bits]
      refine (span85 t hv q (by omega) t.all (all_full hv) (by omega) cap).use [9, 0, 1, 2, 10, 3, 6, 4, 11] ?_ (by (repeat' (first | exact trivial | exact rfl | exact fun _ _ => rfl | exact Or.inl rfl | refine And.intro ?_ ?_))) rfl
      refine And.intro ?_ ?_
      · simp [AllP, under, gB, wB, inR_iff, IntKind.bits]
      refine (t43_nil 0).use [8] ?_ (by (repeat' (first | exact trivial | exact rfl | exact fun _ _ => rfl | exact Or.inl rfl | refine And.intro ?_ ?_))) rfl
      refine And.intro ?_ ⟨_, _, ⟨rfl, rfl⟩, ?_⟩
      · simp [AllP, under, gB, wB, inR_iff, IntKind.bits]
      rw [e0]
      exact ent_tau [0, 1, 2, 3, 4] ⟨by (repeat' (first | exact trivial | exact rfl | exact fun _ _ => rfl | exact Or.inl rfl | refine And.intro ?_ ?_)), by (repeat' (first | exact trivial | exact rfl | exact congrArg (SV.int .i64) (Int.natCast_succ _).symm | refine And.intro ?_ ?_)), rfl⟩
  · refine ⟨ownB_ok rfl, ?_⟩
    have e0 : t.sandT p = ⟨(0, 0), 1⟩ := by simp [TD.sandT, hv]
    refine And.intro ?_ ?_
    · simp [AllP, under, gB, wB, inR_iff, IntKind.bits]
    refine (t43_stop 0 1).use [8] ?_ (by (repeat' (first | exact trivial | exact rfl | exact fun _ _ => rfl | exact Or.inl rfl | refine And.intro ?_ ?_))) rfl
    refine And.intro ?_ ⟨_, _, ⟨rfl, rfl⟩, ?_⟩
    · simp [AllP, under, gB, wB, inR_iff, IntKind.bits]
    rw [e0]
    exact ent_tau [0, 1, 2, 3, 4] ⟨by (repeat' (first | exact trivial | exact rfl | exact fun _ _ => rfl | exact Or.inl rfl | refine And.intro ?_ ?_)), by (repeat' (first | exact trivial | exact rfl | exact congrArg (SV.int .i64) (Int.natCast_succ _).symm | refine And.intro ?_ ?_)), rfl⟩
  · refine ⟨ownB_ok rfl, ?_⟩
    have hm : ¬ t.isPl p := fun h => by rw [inB_iff.2 h] at hb; cases hb
    have e0 : t.sandT p = ⟨(0, 0), 2⟩ := by simp [TD.sandT, hv, hm]
    refine And.intro ?_ ?_
    · simp [AllP, under, gB, wB, inR_iff, IntKind.bits]
    refine (t43_stop 0 2).use [8] ?_ (by (repeat' (first | exact trivial | exact rfl | exact fun _ _ => rfl | exact Or.inl rfl | refine And.intro ?_ ?_))) rfl
    refine And.intro ?_ ⟨_, _, ⟨rfl, rfl⟩, ?_⟩
    · simp [AllP, under, gB, wB, inR_iff, IntKind.bits]
    rw [e0]
    exact ent_tau [0, 1, 2, 3, 4] ⟨by (repeat' (first | exact trivial | exact rfl | exact fun _ _ => rfl | exact Or.inl rfl | refine And.intro ?_ ?_)), by (repeat' (first | exact trivial | exact rfl | exact congrArg (SV.int .i64) (Int.natCast_succ _).symm | refine And.intro ?_ ?_)), rfl⟩

noncomputable def B50 (t : TD) (g : List Tr) : SHeap := [some (.roc [.osl t.bM 1 3 t.nM t.cM, .osl t.bS 2 2 t.nS t.cS, .osl t.bL 3 4 t.nL t.cL, .map 4]),
  some (.roa 3 t.nM (row3 t.mi t.mlo t.mhi)), some (.roa 2 t.nS (row2 t.slo t.shi)), some (.roa 4 t.nL (row4 t.lp t.lm t.llo t.lhi)), some (.memo 5 t.F []),
  some (.glob 0 [.int .i64 0, .int .i64 1, .int .i64 3, .int .i64 6, .int .i64 9, .int .i64 11, .int .i64 12]), some (.roa 8 g.length (rows g)), some db]
theorem t50 (t : TD) (hv : t.Valid) (g : List Tr) (hg : ∀ x ∈ g, fullTr t x) (hl : g.length ≤ 1000) (cp : Nat) (p : Nat) (m : Int) (hm : t.isMin m) (hp : p < t.nS) :
    CallP Tryd.prog 50 [.ptr 0 0, .slice 6 8 0 g.length cp, .int .i64 p, .int .i64 m] (B50 t g)
      (Ret (.agg [.int .i64 (hulLo (a98 t m p) g g.length), .int .i64 (hulHi (b98 t m p) g g.length)]) (B50 t g)) := by
  refine callR (E := E) E_ok Tryd.func50 rfl ?_
  refine And.intro ?_ ?_
  · simp [AllP, under, gB, wB, inR_iff, IntKind.bits]
  refine (span98 t hv m p hm hp g hg hl cp).use [0, 1, 2, 3, 4, 5, 8, 10, 9, 7, 6] ?_ (by (repeat' (first | exact trivial | exact rfl | exact fun _ _ => rfl | exact Or.inl rfl | refine And.intro ?_ ?_))) rfl
  refine And.intro ?_ ?_
  · simp [AllP, under, gB, wB, inR_iff, IntKind.bits]
  exact ent_tau [0, 1, 2, 3, 4, 5, 6, 7] ⟨by (repeat' (first | exact trivial | exact rfl | exact fun _ _ => rfl | exact Or.inl rfl | refine And.intro ?_ ?_)), by (repeat' (first | exact trivial | exact rfl | exact congrArg (SV.int .i64) (Int.natCast_succ _).symm | refine And.intro ?_ ?_)), rfl⟩
open Classical in
noncomputable def TD.depthT (t : TD) (p m : Int) : Told (Int × Int) :=
  if ¬ t.Valid then ⟨(0, 0), 1⟩ else if ¬ (t.isPl p ∧ t.isMin m) then ⟨(0, 0), 2⟩ else if t.all = [] then ⟨(0, 0), 10⟩ else ⟨(hulLo (a98 t m p.toNat) t.all t.all.length, hulHi (b98 t m p.toNat) t.all t.all.length), 0⟩
theorem t25 (t : TD) (p m : Int) : CallP Tryd.prog 25 [t.A, .int .i64 p, .int .i64 m] t.HG (Ret (.tup [.agg [.int .i64 (t.depthT p m).v.1, .int .i64 (t.depthT p m).v.2], .int .i64 (t.depthT p m).e]) t.HG) := by
  refine callD (E := E) E_ok Tryd.func25 rfl Tryd.func76 ⟨_, _, _, _, _, _, _, _, rfl, rfl, rfl⟩ rfl rfl ?_
  refine And.intro ?_ ?_
  · simp [AllP, under, gB, wB, inR_iff, IntKind.bits]
  refine CallP.frame (t44_2 t p m 77 rfl _ (t77 t p m)) [0, 1, 2, 6, 7] (by (repeat' (first | exact trivial | exact rfl | exact fun _ _ => rfl | exact Or.inl rfl | refine And.intro ?_ ?_))) (apartB_ok rfl) rfl ?_
  rintro ce h' (⟨hv, hb, rfl, rfl⟩ | ⟨hv, rfl, rfl⟩ | ⟨hv, hb, rfl, rfl⟩)
  · refine ⟨ownB_ok rfl, ?_⟩
    rw [Bool.and_eq_true] at hb
    have hpm : t.isPl p ∧ t.isMin m := ⟨inB_iff.1 hb.1, inB_iff.1 hb.2⟩
    refine And.intro ?_ ?_
    · simp [AllP, under, gB, wB, inR_iff, IntKind.bits]
    refine drawQ E_ok [6, 7] pl25_3 (by kernel_rfl) ?_
    refine And.intro (And.intro ?_ ?_) trivial
    · simp [AllP, under, gB, wB, inR_iff, IntKind.bits]
    refine CallP.frame (t48 t hv) [10, 0, 1, 2, 11, 3] (by (repeat' (first | exact trivial | exact rfl | exact fun _ _ => rfl | exact Or.inl rfl | refine And.intro ?_ ?_))) (apartB_ok rfl) rfl ?_
    rintro ce h' (⟨h0, rfl, rfl⟩ | ⟨h0, cap, hc1, hc2, rfl, rfl⟩)
    · refine ⟨ownB_ok rfl, ?_⟩
      have e0 : t.depthT p m = ⟨(0, 0), 10⟩ := by simp [TD.depthT, hv, hpm, h0]
      refine And.intro ?_ ?_
      · simp [AllP, under, gB, wB, inR_iff, IntKind.bits]
      refine And.intro ?_ ?_
      · exact rfl
      refine And.intro ?_ ?_
      · simp [AllP, under, gB, wB, inR_iff, IntKind.bits]
      refine (t43_stop 0 10).use [9] ?_ (by (repeat' (first | exact trivial | exact rfl | exact fun _ _ => rfl | exact Or.inl rfl | refine And.intro ?_ ?_))) rfl
      refine And.intro ?_ ⟨_, _, ⟨rfl, rfl⟩, ?_⟩
      · simp [AllP, under, gB, wB, inR_iff, IntKind.bits]
      rw [e0]
      exact ent_tau [0, 1, 2, 3, 4] ⟨by (repeat' (first | exact trivial | exact rfl | exact fun _ _ => rfl | exact Or.inl rfl | refine And.intro ?_ ?_)), by (repeat' (first | exact trivial | exact rfl | exact congrArg (SV.int .i64) (Int.natCast_succ _).symm | refine And.intro ?_ ?_)), rfl⟩
    · refine ⟨ownB_ok rfl, ?_⟩
      have hne : ¬ t.all = [] := fun h => by rw [h] at h0; simp at h0
      have e0 : t.depthT p m = ⟨(hulLo (a98 t m p.toNat) t.all t.all.length, hulHi (b98 t m p.toNat) t.all t.all.length), 0⟩ := by simp [TD.depthT, hv, hpm, hne]
      have hlen := all_len hv
      obtain ⟨q, hq⟩ := Int.eq_ofNat_of_zero_le hpm.1.1
      subst hq
      have hq2 := hpm.1.2
      rw [Int.toNat_natCast] at e0
      refine And.intro (And.intro ?_ ?_) trivial
      · simp [AllP, under, gB, wB, inR_iff, IntKind.bits]
      refine (t50 t hv t.all (all_full hv) (by omega) cap q m hpm.2 (by omega)).use [10, 0, 1, 2, 11, 3, 12, 4] ?_ (by (repeat' (first | exact trivial | exact rfl | exact fun _ _ => rfl | exact Or.inl rfl | refine And.intro ?_ ?_))) rfl
      refine And.intro (And.intro ?_ trivial) trivial
      refine And.intro ?_ ?_
      · simp [AllP, under, gB, wB, inR_iff, IntKind.bits]
      refine And.intro ?_ ?_
      · exact rfl
      refine And.intro ?_ ?_
      · simp [AllP, under, gB, wB, inR_iff, IntKind.bits]
      refine (t43_nil 0).use [9] ?_ (by (repeat' (first | exact trivial | exact rfl | exact fun _ _ => rfl | exact Or.inl rfl | refine And.intro ?_ ?_))) rfl
      refine And.intro ?_ ⟨_, _, ⟨rfl, rfl⟩, ?_⟩
      · simp [AllP, under, gB, wB, inR_iff, IntKind.bits]
      rw [e0]
      exact ent_tau [0, 1, 2, 3, 4] ⟨by (repeat' (first | exact trivial | exact rfl | exact fun _ _ => rfl | exact Or.inl rfl | refine And.intro ?_ ?_)), by (repeat' (first | exact trivial | exact rfl | exact congrArg (SV.int .i64) (Int.natCast_succ _).symm | refine And.intro ?_ ?_)), rfl⟩
  · refine ⟨ownB_ok rfl, ?_⟩
    have e0 : t.depthT p m = ⟨(0, 0), 1⟩ := by simp [TD.depthT, hv]
    refine And.intro ?_ ?_
    · simp [AllP, under, gB, wB, inR_iff, IntKind.bits]
    refine (t43_stop 0 1).use [9] ?_ (by (repeat' (first | exact trivial | exact rfl | exact fun _ _ => rfl | exact Or.inl rfl | refine And.intro ?_ ?_))) rfl
    refine And.intro ?_ ⟨_, _, ⟨rfl, rfl⟩, ?_⟩
    · simp [AllP, under, gB, wB, inR_iff, IntKind.bits]
    rw [e0]
    exact ent_tau [0, 1, 2, 3, 4] ⟨by (repeat' (first | exact trivial | exact rfl | exact fun _ _ => rfl | exact Or.inl rfl | refine And.intro ?_ ?_)), by (repeat' (first | exact trivial | exact rfl | exact congrArg (SV.int .i64) (Int.natCast_succ _).symm | refine And.intro ?_ ?_)), rfl⟩
  · refine ⟨ownB_ok rfl, ?_⟩
    have hpm : ¬ (t.isPl p ∧ t.isMin m) := fun h => by rw [inB_iff.2 h.1, inB_iff.2 h.2] at hb; cases hb
    have e0 : t.depthT p m = ⟨(0, 0), 2⟩ := by simp [TD.depthT, hv, hpm]
    refine And.intro ?_ ?_
    · simp [AllP, under, gB, wB, inR_iff, IntKind.bits]
    refine (t43_stop 0 2).use [9] ?_ (by (repeat' (first | exact trivial | exact rfl | exact fun _ _ => rfl | exact Or.inl rfl | refine And.intro ?_ ?_))) rfl
    refine And.intro ?_ ⟨_, _, ⟨rfl, rfl⟩, ?_⟩
    · simp [AllP, under, gB, wB, inR_iff, IntKind.bits]
    rw [e0]
    exact ent_tau [0, 1, 2, 3, 4] ⟨by (repeat' (first | exact trivial | exact rfl | exact fun _ _ => rfl | exact Or.inl rfl | refine And.intro ?_ ?_)), by (repeat' (first | exact trivial | exact rfl | exact congrArg (SV.int .i64) (Int.natCast_succ _).symm | refine And.intro ?_ ?_)), rfl⟩
end Go.Proofs.YtipbempkngfdbaaDoor
