/-
  Parts: B7, B8, C1, C2.
-/
import Derived.Test.YtipbempkngfdbaaGreatDoorK15
set_option linter.unusedVariables false
/-
  Contracts: the span of a number of all truths.
-/
namespace Go.Proofs.YtipbempkngfdbaaGreatDoor
open Go Go.Sy
set_option linter.unusedSimpArgs false
set_option maxRecDepth 100000
set_option maxHeartbeats 4000000
attribute [local irreducible] CallP CodeP Ent YieldP
set_option maxHeartbeats 800000

def pl112s : Plan := .eager 15 <| .eager 16 <| .eager 17 <| .alt 18 .done .no
def pl83_4s : Plan := .eager 0 <| .eager 1 <| .eager 2 <| .eager 3 <| .eager 4 <| .eager 6 <| .eager 8 <| .eager 9 <| .eager 10 <| .eager 11 <| .eager 13 <|
  .alt 5 (.eager 7 <| .alt 12 (.eager 14 <| pl112s) .no) (.alt 12 (.eager 14 <| .alt 5 (.eager 7 <| pl112s) .no) .no)
def nz : Nat → Bool
  | 0 => false
  | _ + 1 => true
def seeLo (sm : Bool) (lo a : Int) : Int := if sm = true then (if lo ≤ a then lo else a) else a
def seeHi (sm : Bool) (hi b : Int) : Int := if sm = true then (if b ≤ hi then hi else b) else b
/-- The least, and the greatest, of the first k. -/
def hulLo (a : Tr → Int) (g : List Tr) : Nat → Int
  | 0 => 0
  | k + 1 => seeLo (nz k) (hulLo a g k) (a (g.getD k tr0))
def hulHi (b : Tr → Int) (g : List Tr) : Nat → Int
  | 0 => 0
  | k + 1 => seeHi (nz k) (hulHi b g k) (b (g.getD k tr0))
theorem getD_mem {g : List Tr} {k : Nat} (h : k < g.length) : g.getD k tr0 ∈ g := by
  rw [List.getD_eq_getElem?_getD, List.getElem?_eq_getElem h]
  exact List.getElem_mem h
theorem cells_eq {lo hi lo' hi' : Int} {f : Nat} {caps : List SV} (h1 : lo = lo') (h2 : hi = hi') : [SV.int .i64 lo, SV.int .i64 hi, SV.bool true, SV.fn (.func f) [] caps] = [SV.int .i64 lo', SV.int .i64 hi', SV.bool true, SV.fn (.func f) [] caps] := by
  subst h1 h2
  rfl
theorem t73 (t : TD) (hv : t.Valid) (m : Int) (hm : t.isMin m) (x : Tr) (hx : goodTr t x) : CallP Tryz.prog 33 [trv x, .ptr 6 0, .ptr 7 0]
    [some (.roc [.osl t.bM 1 3 t.nM t.cM, .osl t.bS 2 2 t.nS t.cS, .osl t.bL 3 4 t.nL t.cL, .map 4]),
  some (.roa 3 t.nM (row3 t.mi t.mlo t.mhi)), some (.roa 2 t.nS (row2 t.slo t.shi)), some (.roa 4 t.nL (row4 t.lp t.lm t.llo t.lhi)), some (.memo 5 t.F []),
  some (.glob 0 [.int .i64 0, .int .i64 1, .int .i64 3, .int .i64 6, .int .i64 9, .int .i64 11, .int .i64 12]), some (.roc [.ptr 0 0]), some (.roc [.int .i64 m])] (Ret (.tup [.int .i64 (t.stand x.h m), .int .i64 (t.stand x.h m)]) [some (.roc [.osl t.bM 1 3 t.nM t.cM, .osl t.bS 2 2 t.nS t.cS, .osl t.bL 3 4 t.nL t.cL, .map 4]),
  some (.roa 3 t.nM (row3 t.mi t.mlo t.mhi)), some (.roa 2 t.nS (row2 t.slo t.shi)), some (.roa 4 t.nL (row4 t.lp t.lm t.llo t.lhi)), some (.memo 5 t.F []),
  some (.glob 0 [.int .i64 0, .int .i64 1, .int .i64 3, .int .i64 6, .int .i64 9, .int .i64 11, .int .i64 12]), some (.roc [.ptr 0 0]), some (.roc [.int .i64 m])]) := by
  refine callR (E := E) E_ok Tryz.func33 rfl ?_
  refine And.intro ?_ ?_
  · simp [AllP, under, gB, wB, inR_iff, IntKind.bits]
  refine (t74 t hv x.h hx.1 m hm).use [0, 1, 2, 3, 4, 5] ?_ (by (repeat' (first | exact trivial | exact rfl | exact fun _ _ => rfl | exact Or.inl rfl | refine And.intro ?_ ?_))) rfl
  refine And.intro ?_ ?_
  · simp [AllP, under, gB, wB, inR_iff, IntKind.bits]
  exact ent_tau [0, 1, 2, 3, 4, 5, 6, 7] ⟨by (repeat' (first | exact trivial | exact rfl | exact fun _ _ => rfl | exact Or.inl rfl | refine And.intro ?_ ?_)), by (repeat' (first | exact trivial | exact rfl | exact congrArg (SV.int .i64) (Int.natCast_succ _).symm | refine And.intro ?_ ?_)), rfl⟩

theorem s4_get (x : Tr) (p : Nat) (hp : p < 4) : ([x.s 0, x.s 1, x.s 2, x.s 3] : List Int).getD (p : Int).toNat 0 = x.s p := by
  have e : (p : Int).toNat = p := by omega
  rw [e]
  exact h4_get x.s p hp
theorem t85 (t : TD) (hv : t.Valid) (p : Nat) (hp : p < t.nS) (x : Tr) (hx : fullTr t x) : CallP Tryz.prog 47 [trv x, .ptr 0 0] [some (.roc [.int .i64 p]), some db] (Ret (.tup [.int .i64 (loE (x.s p)), .int .i64 (hiE (x.s p))]) [some (.roc [.int .i64 p]), some db]) := by
  have hS := hv.2.1
  refine callR (E := E) E_ok Tryz.func47 rfl ?_
  refine And.intro ?_ ?_
  · simp [AllP, under, gB, wB, inR_iff, IntKind.bits]
    omega
  rw [s4_get x p (by omega)]
  refine (t86 (x.s p) (hx.2 p hp)).use [1] ?_ (by (repeat' (first | exact trivial | exact rfl | exact fun _ _ => rfl | exact Or.inl rfl | refine And.intro ?_ ?_))) rfl
  refine And.intro ?_ ?_
  · simp [AllP, under, gB, wB, inR_iff, IntKind.bits]
  exact ent_tau [0, 1] ⟨by (repeat' (first | exact trivial | exact rfl | exact fun _ _ => rfl | exact Or.inl rfl | refine And.intro ?_ ?_)), by (repeat' (first | exact trivial | exact rfl | exact congrArg (SV.int .i64) (Int.natCast_succ _).symm | refine And.intro ?_ ?_)), rfl⟩
theorem t98 (t : TD) (hv : t.Valid) (m : Int) (p : Nat) (hm : t.isMin m) (hp : p < t.nS) (x : Tr) (hx : fullTr t x) : CallP Tryz.prog 87 [trv x, .ptr 6 0, .ptr 7 0, .ptr 8 0]
    [some (.roc [.osl t.bM 1 3 t.nM t.cM, .osl t.bS 2 2 t.nS t.cS, .osl t.bL 3 4 t.nL t.cL, .map 4]),
  some (.roa 3 t.nM (row3 t.mi t.mlo t.mhi)), some (.roa 2 t.nS (row2 t.slo t.shi)), some (.roa 4 t.nL (row4 t.lp t.lm t.llo t.lhi)), some (.memo 5 t.F []),
  some (.glob 0 [.int .i64 0, .int .i64 1, .int .i64 3, .int .i64 6, .int .i64 9, .int .i64 11, .int .i64 12]), some (.roc [.ptr 0 0]), some (.roc [.int .i64 m]), some (.roc [.int .i64 p]), some db]
    (Ret (.tup [.int .i64 (max0 (t.stand x.h m - hiE (x.s p))), .int .i64 (max0 (t.stand x.h m - loE (x.s p)))]) [some (.roc [.osl t.bM 1 3 t.nM t.cM, .osl t.bS 2 2 t.nS t.cS, .osl t.bL 3 4 t.nL t.cL, .map 4]),
  some (.roa 3 t.nM (row3 t.mi t.mlo t.mhi)), some (.roa 2 t.nS (row2 t.slo t.shi)), some (.roa 4 t.nL (row4 t.lp t.lm t.llo t.lhi)), some (.memo 5 t.F []),
  some (.glob 0 [.int .i64 0, .int .i64 1, .int .i64 3, .int .i64 6, .int .i64 9, .int .i64 11, .int .i64 12]), some (.roc [.ptr 0 0]), some (.roc [.int .i64 m]), some (.roc [.int .i64 p]), some db]) := by
  have hS := hv.2.1
  have hw := stand_range hv hm hx.1.1
  obtain ⟨f1, f2, f3, f4, f5⟩ := few_facts (hx.2 p hp)
  have hlo : 0 ≤ loE (x.s p) ∧ loE (x.s p) ≤ hiE (x.s p) ∧ hiE (x.s p) ≤ 63 := f4
  refine callR (E := E) E_ok Tryz.func87 rfl ?_
  refine And.intro ?_ ?_
  · simp [AllP, under, gB, wB, inR_iff, IntKind.bits]
  refine (t74 t hv x.h hx.1.1 m hm).use [0, 1, 2, 3, 4, 5] ?_ (by (repeat' (first | exact trivial | exact rfl | exact fun _ _ => rfl | exact Or.inl rfl | refine And.intro ?_ ?_))) rfl
  refine And.intro ?_ ?_
  · simp [AllP, under, gB, wB, inR_iff, IntKind.bits]
    omega
  rw [s4_get x p (by omega)]
  refine (t86 (x.s p) (hx.2 p hp)).use [9] ?_ (by (repeat' (first | exact trivial | exact rfl | exact fun _ _ => rfl | exact Or.inl rfl | refine And.intro ?_ ?_))) rfl
  refine And.intro ?_ ?_
  · simp [AllP, under, gB, wB, inR_iff, IntKind.bits]
    omega
  exact ent_tau [0, 1, 2, 3, 4, 5, 6, 7, 8, 9] ⟨by (repeat' (first | exact trivial | exact rfl | exact fun _ _ => rfl | exact Or.inl rfl | refine And.intro ?_ ?_)), by (repeat' (first | exact trivial | exact rfl | exact congrArg (SV.int .i64) (Int.natCast_succ _).symm | refine And.intro ?_ ?_)), rfl⟩

def a73 (t : TD) (m : Int) (x : Tr) : Int := t.stand x.h m
def b73 (t : TD) (m : Int) (x : Tr) : Int := t.stand x.h m
theorem see73 (t : TD) (hv : t.Valid) (m : Int) (hm : t.isMin m) (x : Tr) (hx : fullTr t x) (lo hi : Int) (sm : Bool) :
    CallP Tryz.prog 83 [.ptr 8 0, trv x] [some (.roc [.osl t.bM 1 3 t.nM t.cM, .osl t.bS 2 2 t.nS t.cS, .osl t.bL 3 4 t.nL t.cL, .map 4]),
  some (.roa 3 t.nM (row3 t.mi t.mlo t.mhi)), some (.roa 2 t.nS (row2 t.slo t.shi)), some (.roa 4 t.nL (row4 t.lp t.lm t.llo t.lhi)), some (.memo 5 t.F []),
  some (.glob 0 [.int .i64 0, .int .i64 1, .int .i64 3, .int .i64 6, .int .i64 9, .int .i64 11, .int .i64 12]),
  some (.roc [.ptr 0 0]), some (.roc [.int .i64 m]), some (.cells [.int .i64 lo, .int .i64 hi, .bool sm, .fn (.func 33) [] [.ptr 6 0, .ptr 7 0]])]
      (Ret (.tup []) [some (.roc [.osl t.bM 1 3 t.nM t.cM, .osl t.bS 2 2 t.nS t.cS, .osl t.bL 3 4 t.nL t.cL, .map 4]),
  some (.roa 3 t.nM (row3 t.mi t.mlo t.mhi)), some (.roa 2 t.nS (row2 t.slo t.shi)), some (.roa 4 t.nL (row4 t.lp t.lm t.llo t.lhi)), some (.memo 5 t.F []),
  some (.glob 0 [.int .i64 0, .int .i64 1, .int .i64 3, .int .i64 6, .int .i64 9, .int .i64 11, .int .i64 12]),
  some (.roc [.ptr 0 0]), some (.roc [.int .i64 m]), some (.cells [.int .i64 (seeLo sm lo (a73 t m x)), .int .i64 (seeHi sm hi (b73 t m x)), .bool true, .fn (.func 33) [] [.ptr 6 0, .ptr 7 0]])]) := by
  refine callR (E := E) E_ok Tryz.func83 rfl ?_
  refine And.intro ?_ ?_
  · simp [AllP, under, gB, wB, inR_iff, IntKind.bits]
  refine drawP E_ok [8, 9] pl83_1 (by kernel_rfl) ?_
  refine And.intro (And.intro ?_ ?_) trivial
  · simp [AllP, under, gB, wB, inR_iff, IntKind.bits]
  refine (t73 t hv m hm x hx.1).use [0, 1, 2, 3, 4, 5, 6, 7] ?_ (by (repeat' (first | exact trivial | exact rfl | exact fun _ _ => rfl | exact Or.inl rfl | refine And.intro ?_ ?_))) rfl
  refine And.intro ?_ (And.intro rfl ?_)
  · simp [AllP, under, gB, wB, inR_iff, IntKind.bits]
  refine And.intro ?_ (And.intro (fun hs => ?_) (fun hs => ?_))
  · simp [AllP, under, gB, wB, inR_iff, IntKind.bits]
  · have hs' : sm = false := by simpa using hs
    subst hs'
    refine And.intro ?_ ?_
    · simp [AllP, under, gB, wB, inR_iff, IntKind.bits]
    refine drawP E_ok [] pl83_4s (by kernel_rfl) ?_
    refine And.intro (And.intro (And.intro ?_ trivial) trivial) (And.intro (And.intro (And.intro ?_ trivial) trivial) trivial)
    · refine And.intro ?_ ?_
      · simp [AllP, under, gB, wB, inR_iff, IntKind.bits]
      refine And.intro ?_ ?_
      · exact rfl
      refine And.intro ?_ ?_
      · simp [AllP, under, gB, wB, inR_iff, IntKind.bits]
      refine ent_tau [0, 1, 2, 3, 4, 5, 6, 7, 8] ⟨?_, by (repeat' (first | exact trivial | exact rfl | exact congrArg (SV.int .i64) (Int.natCast_succ _).symm | refine And.intro ?_ ?_)), rfl⟩
      (repeat' (first | exact trivial | exact rfl | exact fun _ _ => rfl | exact Or.inl rfl | refine And.intro ?_ ?_))
      refine cells_eq ?_ ?_
      · simp only [seeLo, a73, reduceCtorEq, if_true, if_false]
        try (repeat' split)
        all_goals omega
      · simp only [seeHi, b73, reduceCtorEq, if_true, if_false]
        try (repeat' split)
        all_goals omega
    · refine And.intro ?_ ?_
      · simp [AllP, under, gB, wB, inR_iff, IntKind.bits]
      refine And.intro ?_ ?_
      · exact rfl
      refine And.intro ?_ ?_
      · simp [AllP, under, gB, wB, inR_iff, IntKind.bits]
      refine ent_tau [0, 1, 2, 3, 4, 5, 6, 7, 8] ⟨?_, by (repeat' (first | exact trivial | exact rfl | exact congrArg (SV.int .i64) (Int.natCast_succ _).symm | refine And.intro ?_ ?_)), rfl⟩
      (repeat' (first | exact trivial | exact rfl | exact fun _ _ => rfl | exact Or.inl rfl | refine And.intro ?_ ?_))
      refine cells_eq ?_ ?_
      · simp only [seeLo, a73, reduceCtorEq, if_true, if_false]
        try (repeat' split)
        all_goals omega
      · simp only [seeHi, b73, reduceCtorEq, if_true, if_false]
        try (repeat' split)
        all_goals omega
  · have hs' : sm = true := by simpa using hs
    subst hs'
    refine And.intro ?_ ?_
    · simp [AllP, under, gB, wB, inR_iff, IntKind.bits]
    refine drawP E_ok [] pl83_4s (by kernel_rfl) ?_
    refine And.intro (And.intro (And.intro ?_ trivial) trivial) (And.intro (And.intro (And.intro ?_ trivial) trivial) trivial)
    · refine And.intro ?_ ?_
      · simp [AllP, under, gB, wB, inR_iff, IntKind.bits]
      refine And.intro ?_ ?_
      · exact rfl
      refine And.intro ?_ ?_
      · simp [AllP, under, gB, wB, inR_iff, IntKind.bits]
      refine ent_tau [0, 1, 2, 3, 4, 5, 6, 7, 8] ⟨?_, by (repeat' (first | exact trivial | exact rfl | exact congrArg (SV.int .i64) (Int.natCast_succ _).symm | refine And.intro ?_ ?_)), rfl⟩
      (repeat' (first | exact trivial | exact rfl | exact fun _ _ => rfl | exact Or.inl rfl | refine And.intro ?_ ?_))
      refine cells_eq ?_ ?_
      · simp only [seeLo, a73, reduceCtorEq, if_true, if_false]
        try (repeat' split)
        all_goals omega
      · simp only [seeHi, b73, reduceCtorEq, if_true, if_false]
        try (repeat' split)
        all_goals omega
    · refine And.intro ?_ ?_
      · simp [AllP, under, gB, wB, inR_iff, IntKind.bits]
      refine And.intro ?_ ?_
      · exact rfl
      refine And.intro ?_ ?_
      · simp [AllP, under, gB, wB, inR_iff, IntKind.bits]
      refine ent_tau [0, 1, 2, 3, 4, 5, 6, 7, 8] ⟨?_, by (repeat' (first | exact trivial | exact rfl | exact congrArg (SV.int .i64) (Int.natCast_succ _).symm | refine And.intro ?_ ?_)), rfl⟩
      (repeat' (first | exact trivial | exact rfl | exact fun _ _ => rfl | exact Or.inl rfl | refine And.intro ?_ ?_))
      refine cells_eq ?_ ?_
      · simp only [seeLo, a73, reduceCtorEq, if_true, if_false]
        try (repeat' split)
        all_goals omega
      · simp only [seeHi, b73, reduceCtorEq, if_true, if_false]
        try (repeat' split)
        all_goals omega
theorem span73 (t : TD) (hv : t.Valid) (m : Int) (hm : t.isMin m) (g : List Tr) (hg : ∀ x ∈ g, fullTr t x) (hl : g.length ≤ 1000) (cp : Nat) :
    CallP Tryz.prog 31 [.slice 8 8 0 g.length cp, .fn (.func 33) [] [.ptr 6 0, .ptr 7 0]] [some (.roc [.osl t.bM 1 3 t.nM t.cM, .osl t.bS 2 2 t.nS t.cS, .osl t.bL 3 4 t.nL t.cL, .map 4]),
  some (.roa 3 t.nM (row3 t.mi t.mlo t.mhi)), some (.roa 2 t.nS (row2 t.slo t.shi)), some (.roa 4 t.nL (row4 t.lp t.lm t.llo t.lhi)), some (.memo 5 t.F []),
  some (.glob 0 [.int .i64 0, .int .i64 1, .int .i64 3, .int .i64 6, .int .i64 9, .int .i64 11, .int .i64 12]),
  some (.roc [.ptr 0 0]), some (.roc [.int .i64 m]), some (.roa 8 g.length (rows g))]
      (Ret (.agg [.int .i64 (hulLo (a73 t m) g g.length), .int .i64 (hulHi (b73 t m) g g.length)]) [some (.roc [.osl t.bM 1 3 t.nM t.cM, .osl t.bS 2 2 t.nS t.cS, .osl t.bL 3 4 t.nL t.cL, .map 4]),
  some (.roa 3 t.nM (row3 t.mi t.mlo t.mhi)), some (.roa 2 t.nS (row2 t.slo t.shi)), some (.roa 4 t.nL (row4 t.lp t.lm t.llo t.lhi)), some (.memo 5 t.F []),
  some (.glob 0 [.int .i64 0, .int .i64 1, .int .i64 3, .int .i64 6, .int .i64 9, .int .i64 11, .int .i64 12]),
  some (.roc [.ptr 0 0]), some (.roc [.int .i64 m]), some (.roa 8 g.length (rows g))]) := by
  refine callR (E := E) E_ok Tryz.func31 rfl ?_
  refine And.intro ?_ ?_
  · simp [AllP, under, gB, wB, inR_iff, IntKind.bits]
  refine loopP E_ok [0, 1, 4, 5, 10, 11] (fun k : Nat => [(12, .int .i64 k)]) (fun k H => H.set 10 (some (.cells [.int .i64 (hulLo (a73 t m) g k), .int .i64 (hulHi (b73 t m) g k), .bool (nz k), .fn (.func 33) [] [.ptr 6 0, .ptr 7 0]])))
    (fun k => k ≤ g.length) (fun k => g.length - k) 0 (Nat.zero_le _) ?_ ?_
  · exact ent_tau [0, 1, 2, 3, 4, 5, 6, 7, 8, 9, 10] ⟨by (repeat' (first | exact trivial | exact rfl | exact fun _ _ => rfl | exact Or.inl rfl | refine And.intro ?_ ?_)), by (repeat' (first | exact trivial | exact rfl | exact congrArg (SV.int .i64) (Int.natCast_succ _).symm | refine And.intro ?_ ?_)), rfl⟩
  · intro k hk
    refine And.intro ?_ (And.intro (fun hlt => ?_) (fun hlt => ?_))
    · simp [AllP, under, gB, wB, inR_iff, IntKind.bits]
    · have hlt' : k < g.length := by simpa using hlt
      have ek : (0 + (k : Int).toNat) = k := by omega
      have hgk := hg _ (getD_mem hlt')
      refine And.intro ?_ ?_
      · simp [AllP, under, gB, wB, inR_iff, IntKind.bits]
        omega
      rw [ek]
      refine (see73 t hv m hm (g.getD k tr0) hgk _ _ _).use [0, 1, 2, 3, 4, 5, 6, 7, 10] ?_ (by (repeat' (first | exact trivial | exact rfl | exact fun _ _ => rfl | exact Or.inl rfl | refine And.intro ?_ ?_))) rfl
      refine And.intro ?_ ⟨k + 1, hlt', by omega, ?_⟩
      · simp [AllP, under, gB, wB, inR_iff, IntKind.bits]
        omega
      · exact ent_tau [0, 1, 2, 3, 4, 5, 6, 7, 8, 9, 10] ⟨by (repeat' (first | exact trivial | exact rfl | exact fun _ _ => rfl | exact Or.inl rfl | refine And.intro ?_ ?_)), by (repeat' (first | exact trivial | exact rfl | exact congrArg (SV.int .i64) (Int.natCast_succ _).symm | refine And.intro ?_ ?_)), rfl⟩
    · have hkl : k = g.length := by
        have : ¬ (k < g.length) := by simpa using hlt
        omega
      subst hkl
      refine And.intro ?_ ?_
      · simp [AllP, under, gB, wB, inR_iff, IntKind.bits]
      refine And.intro trivial ?_
      exact ent_tau [0, 1, 2, 3, 4, 5, 6, 7, 8] ⟨by (repeat' (first | exact trivial | exact rfl | exact fun _ _ => rfl | exact Or.inl rfl | refine And.intro ?_ ?_)), by (repeat' (first | exact trivial | exact rfl | exact congrArg (SV.int .i64) (Int.natCast_succ _).symm | refine And.intro ?_ ?_)), rfl⟩

def a85 (_ : TD) (p : Nat) (x : Tr) : Int := loE (x.s p)
def b85 (_ : TD) (p : Nat) (x : Tr) : Int := hiE (x.s p)
theorem see85 (t : TD) (hv : t.Valid) (p : Nat) (hp : p < t.nS) (x : Tr) (hx : fullTr t x) (lo hi : Int) (sm : Bool) :
    CallP Tryz.prog 83 [.ptr 8 0, trv x] [some (.roc [.osl t.bM 1 3 t.nM t.cM, .osl t.bS 2 2 t.nS t.cS, .osl t.bL 3 4 t.nL t.cL, .map 4]),
  some (.roa 3 t.nM (row3 t.mi t.mlo t.mhi)), some (.roa 2 t.nS (row2 t.slo t.shi)), some (.roa 4 t.nL (row4 t.lp t.lm t.llo t.lhi)), some (.memo 5 t.F []),
  some (.glob 0 [.int .i64 0, .int .i64 1, .int .i64 3, .int .i64 6, .int .i64 9, .int .i64 11, .int .i64 12]),
  some (.roc [.int .i64 p]), some db, some (.cells [.int .i64 lo, .int .i64 hi, .bool sm, .fn (.func 47) [] [.ptr 6 0]])]
      (Ret (.tup []) [some (.roc [.osl t.bM 1 3 t.nM t.cM, .osl t.bS 2 2 t.nS t.cS, .osl t.bL 3 4 t.nL t.cL, .map 4]),
  some (.roa 3 t.nM (row3 t.mi t.mlo t.mhi)), some (.roa 2 t.nS (row2 t.slo t.shi)), some (.roa 4 t.nL (row4 t.lp t.lm t.llo t.lhi)), some (.memo 5 t.F []),
  some (.glob 0 [.int .i64 0, .int .i64 1, .int .i64 3, .int .i64 6, .int .i64 9, .int .i64 11, .int .i64 12]),
  some (.roc [.int .i64 p]), some db, some (.cells [.int .i64 (seeLo sm lo (a85 t p x)), .int .i64 (seeHi sm hi (b85 t p x)), .bool true, .fn (.func 47) [] [.ptr 6 0]])]) := by
  refine callR (E := E) E_ok Tryz.func83 rfl ?_
  refine And.intro ?_ ?_
  · simp [AllP, under, gB, wB, inR_iff, IntKind.bits]
  refine drawP E_ok [8, 9] pl83_1 (by kernel_rfl) ?_
  refine And.intro (And.intro ?_ ?_) trivial
  · simp [AllP, under, gB, wB, inR_iff, IntKind.bits]
  refine (t85 t hv p hp x hx).use [6, 7] ?_ (by (repeat' (first | exact trivial | exact rfl | exact fun _ _ => rfl | exact Or.inl rfl | refine And.intro ?_ ?_))) rfl
  refine And.intro ?_ (And.intro rfl ?_)
  · simp [AllP, under, gB, wB, inR_iff, IntKind.bits]
  refine And.intro ?_ (And.intro (fun hs => ?_) (fun hs => ?_))
  · simp [AllP, under, gB, wB, inR_iff, IntKind.bits]
  · have hs' : sm = false := by simpa using hs
    subst hs'
    refine And.intro ?_ ?_
    · simp [AllP, under, gB, wB, inR_iff, IntKind.bits]
    refine drawP E_ok [] pl83_4s (by kernel_rfl) ?_
    refine And.intro (And.intro (And.intro ?_ trivial) trivial) (And.intro (And.intro (And.intro ?_ trivial) trivial) trivial)
    · refine And.intro ?_ ?_
      · simp [AllP, under, gB, wB, inR_iff, IntKind.bits]
      refine And.intro ?_ ?_
      · exact rfl
      refine And.intro ?_ ?_
      · simp [AllP, under, gB, wB, inR_iff, IntKind.bits]
      refine ent_tau [0, 1, 2, 3, 4, 5, 6, 7, 8] ⟨?_, by (repeat' (first | exact trivial | exact rfl | exact congrArg (SV.int .i64) (Int.natCast_succ _).symm | refine And.intro ?_ ?_)), rfl⟩
      (repeat' (first | exact trivial | exact rfl | exact fun _ _ => rfl | exact Or.inl rfl | refine And.intro ?_ ?_))
      refine cells_eq ?_ ?_
      · simp only [seeLo, a85, reduceCtorEq, if_true, if_false]
        try (repeat' split)
        all_goals omega
      · simp only [seeHi, b85, reduceCtorEq, if_true, if_false]
        try (repeat' split)
        all_goals omega
    · refine And.intro ?_ ?_
      · simp [AllP, under, gB, wB, inR_iff, IntKind.bits]
      refine And.intro ?_ ?_
      · exact rfl
      refine And.intro ?_ ?_
      · simp [AllP, under, gB, wB, inR_iff, IntKind.bits]
      refine ent_tau [0, 1, 2, 3, 4, 5, 6, 7, 8] ⟨?_, by (repeat' (first | exact trivial | exact rfl | exact congrArg (SV.int .i64) (Int.natCast_succ _).symm | refine And.intro ?_ ?_)), rfl⟩
      (repeat' (first | exact trivial | exact rfl | exact fun _ _ => rfl | exact Or.inl rfl | refine And.intro ?_ ?_))
      refine cells_eq ?_ ?_
      · simp only [seeLo, a85, reduceCtorEq, if_true, if_false]
        try (repeat' split)
        all_goals omega
      · simp only [seeHi, b85, reduceCtorEq, if_true, if_false]
        try (repeat' split)
        all_goals omega
  · have hs' : sm = true := by simpa using hs
    subst hs'
    refine And.intro ?_ ?_
    · simp [AllP, under, gB, wB, inR_iff, IntKind.bits]
    refine drawP E_ok [] pl83_4s (by kernel_rfl) ?_
    refine And.intro (And.intro (And.intro ?_ trivial) trivial) (And.intro (And.intro (And.intro ?_ trivial) trivial) trivial)
    · refine And.intro ?_ ?_
      · simp [AllP, under, gB, wB, inR_iff, IntKind.bits]
      refine And.intro ?_ ?_
      · exact rfl
      refine And.intro ?_ ?_
      · simp [AllP, under, gB, wB, inR_iff, IntKind.bits]
      refine ent_tau [0, 1, 2, 3, 4, 5, 6, 7, 8] ⟨?_, by (repeat' (first | exact trivial | exact rfl | exact congrArg (SV.int .i64) (Int.natCast_succ _).symm | refine And.intro ?_ ?_)), rfl⟩
      (repeat' (first | exact trivial | exact rfl | exact fun _ _ => rfl | exact Or.inl rfl | refine And.intro ?_ ?_))
      refine cells_eq ?_ ?_
      · simp only [seeLo, a85, reduceCtorEq, if_true, if_false]
        try (repeat' split)
        all_goals omega
      · simp only [seeHi, b85, reduceCtorEq, if_true, if_false]
        try (repeat' split)
        all_goals omega
    · refine And.intro ?_ ?_
      · simp [AllP, under, gB, wB, inR_iff, IntKind.bits]
      refine And.intro ?_ ?_
      · exact rfl
      refine And.intro ?_ ?_
      · simp [AllP, under, gB, wB, inR_iff, IntKind.bits]
      refine ent_tau [0, 1, 2, 3, 4, 5, 6, 7, 8] ⟨?_, by (repeat' (first | exact trivial | exact rfl | exact congrArg (SV.int .i64) (Int.natCast_succ _).symm | refine And.intro ?_ ?_)), rfl⟩
      (repeat' (first | exact trivial | exact rfl | exact fun _ _ => rfl | exact Or.inl rfl | refine And.intro ?_ ?_))
      refine cells_eq ?_ ?_
      · simp only [seeLo, a85, reduceCtorEq, if_true, if_false]
        try (repeat' split)
        all_goals omega
      · simp only [seeHi, b85, reduceCtorEq, if_true, if_false]
        try (repeat' split)
        all_goals omega
theorem span85 (t : TD) (hv : t.Valid) (p : Nat) (hp : p < t.nS) (g : List Tr) (hg : ∀ x ∈ g, fullTr t x) (hl : g.length ≤ 1000) (cp : Nat) :
    CallP Tryz.prog 31 [.slice 8 8 0 g.length cp, .fn (.func 47) [] [.ptr 6 0]] [some (.roc [.osl t.bM 1 3 t.nM t.cM, .osl t.bS 2 2 t.nS t.cS, .osl t.bL 3 4 t.nL t.cL, .map 4]),
  some (.roa 3 t.nM (row3 t.mi t.mlo t.mhi)), some (.roa 2 t.nS (row2 t.slo t.shi)), some (.roa 4 t.nL (row4 t.lp t.lm t.llo t.lhi)), some (.memo 5 t.F []),
  some (.glob 0 [.int .i64 0, .int .i64 1, .int .i64 3, .int .i64 6, .int .i64 9, .int .i64 11, .int .i64 12]),
  some (.roc [.int .i64 p]), some db, some (.roa 8 g.length (rows g))]
      (Ret (.agg [.int .i64 (hulLo (a85 t p) g g.length), .int .i64 (hulHi (b85 t p) g g.length)]) [some (.roc [.osl t.bM 1 3 t.nM t.cM, .osl t.bS 2 2 t.nS t.cS, .osl t.bL 3 4 t.nL t.cL, .map 4]),
  some (.roa 3 t.nM (row3 t.mi t.mlo t.mhi)), some (.roa 2 t.nS (row2 t.slo t.shi)), some (.roa 4 t.nL (row4 t.lp t.lm t.llo t.lhi)), some (.memo 5 t.F []),
  some (.glob 0 [.int .i64 0, .int .i64 1, .int .i64 3, .int .i64 6, .int .i64 9, .int .i64 11, .int .i64 12]),
  some (.roc [.int .i64 p]), some db, some (.roa 8 g.length (rows g))]) := by
  refine callR (E := E) E_ok Tryz.func31 rfl ?_
  refine And.intro ?_ ?_
  · simp [AllP, under, gB, wB, inR_iff, IntKind.bits]
  refine loopP E_ok [0, 1, 4, 5, 10, 11] (fun k : Nat => [(12, .int .i64 k)]) (fun k H => H.set 10 (some (.cells [.int .i64 (hulLo (a85 t p) g k), .int .i64 (hulHi (b85 t p) g k), .bool (nz k), .fn (.func 47) [] [.ptr 6 0]])))
    (fun k => k ≤ g.length) (fun k => g.length - k) 0 (Nat.zero_le _) ?_ ?_
  · exact ent_tau [0, 1, 2, 3, 4, 5, 6, 7, 8, 9, 10] ⟨by (repeat' (first | exact trivial | exact rfl | exact fun _ _ => rfl | exact Or.inl rfl | refine And.intro ?_ ?_)), by (repeat' (first | exact trivial | exact rfl | exact congrArg (SV.int .i64) (Int.natCast_succ _).symm | refine And.intro ?_ ?_)), rfl⟩
  · intro k hk
    refine And.intro ?_ (And.intro (fun hlt => ?_) (fun hlt => ?_))
    · simp [AllP, under, gB, wB, inR_iff, IntKind.bits]
    · have hlt' : k < g.length := by simpa using hlt
      have ek : (0 + (k : Int).toNat) = k := by omega
      have hgk := hg _ (getD_mem hlt')
      refine And.intro ?_ ?_
      · simp [AllP, under, gB, wB, inR_iff, IntKind.bits]
        omega
      rw [ek]
      refine (see85 t hv p hp (g.getD k tr0) hgk _ _ _).use [0, 1, 2, 3, 4, 5, 6, 7, 10] ?_ (by (repeat' (first | exact trivial | exact rfl | exact fun _ _ => rfl | exact Or.inl rfl | refine And.intro ?_ ?_))) rfl
      refine And.intro ?_ ⟨k + 1, hlt', by omega, ?_⟩
      · simp [AllP, under, gB, wB, inR_iff, IntKind.bits]
        omega
      · exact ent_tau [0, 1, 2, 3, 4, 5, 6, 7, 8, 9, 10] ⟨by (repeat' (first | exact trivial | exact rfl | exact fun _ _ => rfl | exact Or.inl rfl | refine And.intro ?_ ?_)), by (repeat' (first | exact trivial | exact rfl | exact congrArg (SV.int .i64) (Int.natCast_succ _).symm | refine And.intro ?_ ?_)), rfl⟩
    · have hkl : k = g.length := by
        have : ¬ (k < g.length) := by simpa using hlt
        omega
      subst hkl
      refine And.intro ?_ ?_
      · simp [AllP, under, gB, wB, inR_iff, IntKind.bits]
      refine And.intro trivial ?_
      exact ent_tau [0, 1, 2, 3, 4, 5, 6, 7, 8] ⟨by (repeat' (first | exact trivial | exact rfl | exact fun _ _ => rfl | exact Or.inl rfl | refine And.intro ?_ ?_)), by (repeat' (first | exact trivial | exact rfl | exact congrArg (SV.int .i64) (Int.natCast_succ _).symm | refine And.intro ?_ ?_)), rfl⟩

def a98 (t : TD) (m : Int) (p : Nat) (x : Tr) : Int := max0 (t.stand x.h m - hiE (x.s p))
def b98 (t : TD) (m : Int) (p : Nat) (x : Tr) : Int := max0 (t.stand x.h m - loE (x.s p))
theorem see98 (t : TD) (hv : t.Valid) (m : Int) (p : Nat) (hm : t.isMin m) (hp : p < t.nS) (x : Tr) (hx : fullTr t x) (lo hi : Int) (sm : Bool) :
    CallP Tryz.prog 83 [.ptr 10 0, trv x] [some (.roc [.osl t.bM 1 3 t.nM t.cM, .osl t.bS 2 2 t.nS t.cS, .osl t.bL 3 4 t.nL t.cL, .map 4]),
  some (.roa 3 t.nM (row3 t.mi t.mlo t.mhi)), some (.roa 2 t.nS (row2 t.slo t.shi)), some (.roa 4 t.nL (row4 t.lp t.lm t.llo t.lhi)), some (.memo 5 t.F []),
  some (.glob 0 [.int .i64 0, .int .i64 1, .int .i64 3, .int .i64 6, .int .i64 9, .int .i64 11, .int .i64 12]),
  some (.roc [.ptr 0 0]), some (.roc [.int .i64 m]), some (.roc [.int .i64 p]), some db, some (.cells [.int .i64 lo, .int .i64 hi, .bool sm, .fn (.func 87) [] [.ptr 6 0, .ptr 7 0, .ptr 8 0]])]
      (Ret (.tup []) [some (.roc [.osl t.bM 1 3 t.nM t.cM, .osl t.bS 2 2 t.nS t.cS, .osl t.bL 3 4 t.nL t.cL, .map 4]),
  some (.roa 3 t.nM (row3 t.mi t.mlo t.mhi)), some (.roa 2 t.nS (row2 t.slo t.shi)), some (.roa 4 t.nL (row4 t.lp t.lm t.llo t.lhi)), some (.memo 5 t.F []),
  some (.glob 0 [.int .i64 0, .int .i64 1, .int .i64 3, .int .i64 6, .int .i64 9, .int .i64 11, .int .i64 12]),
  some (.roc [.ptr 0 0]), some (.roc [.int .i64 m]), some (.roc [.int .i64 p]), some db, some (.cells [.int .i64 (seeLo sm lo (a98 t m p x)), .int .i64 (seeHi sm hi (b98 t m p x)), .bool true, .fn (.func 87) [] [.ptr 6 0, .ptr 7 0, .ptr 8 0]])]) := by
  refine callR (E := E) E_ok Tryz.func83 rfl ?_
  refine And.intro ?_ ?_
  · simp [AllP, under, gB, wB, inR_iff, IntKind.bits]
  refine drawP E_ok [10, 11] pl83_1 (by kernel_rfl) ?_
  refine And.intro (And.intro ?_ ?_) trivial
  · simp [AllP, under, gB, wB, inR_iff, IntKind.bits]
  refine (t98 t hv m p hm hp x hx).use [0, 1, 2, 3, 4, 5, 6, 7, 8, 9] ?_ (by (repeat' (first | exact trivial | exact rfl | exact fun _ _ => rfl | exact Or.inl rfl | refine And.intro ?_ ?_))) rfl
  refine And.intro ?_ (And.intro rfl ?_)
  · simp [AllP, under, gB, wB, inR_iff, IntKind.bits]
  refine And.intro ?_ (And.intro (fun hs => ?_) (fun hs => ?_))
  · simp [AllP, under, gB, wB, inR_iff, IntKind.bits]
  · have hs' : sm = false := by simpa using hs
    subst hs'
    refine And.intro ?_ ?_
    · simp [AllP, under, gB, wB, inR_iff, IntKind.bits]
    refine drawP E_ok [] pl83_4s (by kernel_rfl) ?_
    refine And.intro (And.intro (And.intro ?_ trivial) trivial) (And.intro (And.intro (And.intro ?_ trivial) trivial) trivial)
    · refine And.intro ?_ ?_
      · simp [AllP, under, gB, wB, inR_iff, IntKind.bits]
      refine And.intro ?_ ?_
      · exact rfl
      refine And.intro ?_ ?_
      · simp [AllP, under, gB, wB, inR_iff, IntKind.bits]
      refine ent_tau [0, 1, 2, 3, 4, 5, 6, 7, 8, 9, 10] ⟨?_, by (repeat' (first | exact trivial | exact rfl | exact congrArg (SV.int .i64) (Int.natCast_succ _).symm | refine And.intro ?_ ?_)), rfl⟩
      (repeat' (first | exact trivial | exact rfl | exact fun _ _ => rfl | exact Or.inl rfl | refine And.intro ?_ ?_))
      refine cells_eq ?_ ?_
      · simp only [seeLo, a98, reduceCtorEq, if_true, if_false]
        try (repeat' split)
        all_goals omega
      · simp only [seeHi, b98, reduceCtorEq, if_true, if_false]
        try (repeat' split)
        all_goals omega
    · refine And.intro ?_ ?_
      · simp [AllP, under, gB, wB, inR_iff, IntKind.bits]
      refine And.intro ?_ ?_
      · exact rfl
      refine And.intro ?_ ?_
      · simp [AllP, under, gB, wB, inR_iff, IntKind.bits]
      refine ent_tau [0, 1, 2, 3, 4, 5, 6, 7, 8, 9, 10] ⟨?_, by (repeat' (first | exact trivial | exact rfl | exact congrArg (SV.int .i64) (Int.natCast_succ _).symm | refine And.intro ?_ ?_)), rfl⟩
      (repeat' (first | exact trivial | exact rfl | exact fun _ _ => rfl | exact Or.inl rfl | refine And.intro ?_ ?_))
      refine cells_eq ?_ ?_
      · simp only [seeLo, a98, reduceCtorEq, if_true, if_false]
        try (repeat' split)
        all_goals omega
      · simp only [seeHi, b98, reduceCtorEq, if_true, if_false]
        try (repeat' split)
        all_goals omega
  · have hs' : sm = true := by simpa using hs
    subst hs'
    refine And.intro ?_ ?_
    · simp [AllP, under, gB, wB, inR_iff, IntKind.bits]
    refine drawP E_ok [] pl83_4s (by kernel_rfl) ?_
    refine And.intro (And.intro (And.intro ?_ trivial) trivial) (And.intro (And.intro (And.intro ?_ trivial) trivial) trivial)
    · refine And.intro ?_ ?_
      · simp [AllP, under, gB, wB, inR_iff, IntKind.bits]
      refine And.intro ?_ ?_
      · exact rfl
      refine And.intro ?_ ?_
      · simp [AllP, under, gB, wB, inR_iff, IntKind.bits]
      refine ent_tau [0, 1, 2, 3, 4, 5, 6, 7, 8, 9, 10] ⟨?_, by (repeat' (first | exact trivial | exact rfl | exact congrArg (SV.int .i64) (Int.natCast_succ _).symm | refine And.intro ?_ ?_)), rfl⟩
      (repeat' (first | exact trivial | exact rfl | exact fun _ _ => rfl | exact Or.inl rfl | refine And.intro ?_ ?_))
      refine cells_eq ?_ ?_
      · simp only [seeLo, a98, reduceCtorEq, if_true, if_false]
        try (repeat' split)
        all_goals omega
      · simp only [seeHi, b98, reduceCtorEq, if_true, if_false]
        try (repeat' split)
        all_goals omega
    · refine And.intro ?_ ?_
      · simp [AllP, under, gB, wB, inR_iff, IntKind.bits]
      refine And.intro ?_ ?_
      · exact rfl
      refine And.intro ?_ ?_
      · simp [AllP, under, gB, wB, inR_iff, IntKind.bits]
      refine ent_tau [0, 1, 2, 3, 4, 5, 6, 7, 8, 9, 10] ⟨?_, by (repeat' (first | exact trivial | exact rfl | exact congrArg (SV.int .i64) (Int.natCast_succ _).symm | refine And.intro ?_ ?_)), rfl⟩
      (repeat' (first | exact trivial | exact rfl | exact fun _ _ => rfl | exact Or.inl rfl | refine And.intro ?_ ?_))
      refine cells_eq ?_ ?_
      · simp only [seeLo, a98, reduceCtorEq, if_true, if_false]
        try (repeat' split)
        all_goals omega
      · simp only [seeHi, b98, reduceCtorEq, if_true, if_false]
        try (repeat' split)
        all_goals omega
theorem span98 (t : TD) (hv : t.Valid) (m : Int) (p : Nat) (hm : t.isMin m) (hp : p < t.nS) (g : List Tr) (hg : ∀ x ∈ g, fullTr t x) (hl : g.length ≤ 1000) (cp : Nat) :
    CallP Tryz.prog 31 [.slice 10 8 0 g.length cp, .fn (.func 87) [] [.ptr 6 0, .ptr 7 0, .ptr 8 0]] [some (.roc [.osl t.bM 1 3 t.nM t.cM, .osl t.bS 2 2 t.nS t.cS, .osl t.bL 3 4 t.nL t.cL, .map 4]),
  some (.roa 3 t.nM (row3 t.mi t.mlo t.mhi)), some (.roa 2 t.nS (row2 t.slo t.shi)), some (.roa 4 t.nL (row4 t.lp t.lm t.llo t.lhi)), some (.memo 5 t.F []),
  some (.glob 0 [.int .i64 0, .int .i64 1, .int .i64 3, .int .i64 6, .int .i64 9, .int .i64 11, .int .i64 12]),
  some (.roc [.ptr 0 0]), some (.roc [.int .i64 m]), some (.roc [.int .i64 p]), some db, some (.roa 8 g.length (rows g))]
      (Ret (.agg [.int .i64 (hulLo (a98 t m p) g g.length), .int .i64 (hulHi (b98 t m p) g g.length)]) [some (.roc [.osl t.bM 1 3 t.nM t.cM, .osl t.bS 2 2 t.nS t.cS, .osl t.bL 3 4 t.nL t.cL, .map 4]),
  some (.roa 3 t.nM (row3 t.mi t.mlo t.mhi)), some (.roa 2 t.nS (row2 t.slo t.shi)), some (.roa 4 t.nL (row4 t.lp t.lm t.llo t.lhi)), some (.memo 5 t.F []),
  some (.glob 0 [.int .i64 0, .int .i64 1, .int .i64 3, .int .i64 6, .int .i64 9, .int .i64 11, .int .i64 12]),
  some (.roc [.ptr 0 0]), some (.roc [.int .i64 m]), some (.roc [.int .i64 p]), some db, some (.roa 8 g.length (rows g))]) := by
  refine callR (E := E) E_ok Tryz.func31 rfl ?_
  refine And.intro ?_ ?_
  · simp [AllP, under, gB, wB, inR_iff, IntKind.bits]
  refine loopP E_ok [0, 1, 4, 5, 10, 11] (fun k : Nat => [(12, .int .i64 k)]) (fun k H => H.set 12 (some (.cells [.int .i64 (hulLo (a98 t m p) g k), .int .i64 (hulHi (b98 t m p) g k), .bool (nz k), .fn (.func 87) [] [.ptr 6 0, .ptr 7 0, .ptr 8 0]])))
    (fun k => k ≤ g.length) (fun k => g.length - k) 0 (Nat.zero_le _) ?_ ?_
  · exact ent_tau [0, 1, 2, 3, 4, 5, 6, 7, 8, 9, 10, 11, 12] ⟨by (repeat' (first | exact trivial | exact rfl | exact fun _ _ => rfl | exact Or.inl rfl | refine And.intro ?_ ?_)), by (repeat' (first | exact trivial | exact rfl | exact congrArg (SV.int .i64) (Int.natCast_succ _).symm | refine And.intro ?_ ?_)), rfl⟩
  · intro k hk
    refine And.intro ?_ (And.intro (fun hlt => ?_) (fun hlt => ?_))
    · simp [AllP, under, gB, wB, inR_iff, IntKind.bits]
    · have hlt' : k < g.length := by simpa using hlt
      have ek : (0 + (k : Int).toNat) = k := by omega
      have hgk := hg _ (getD_mem hlt')
      refine And.intro ?_ ?_
      · simp [AllP, under, gB, wB, inR_iff, IntKind.bits]
        omega
      rw [ek]
      refine (see98 t hv m p hm hp (g.getD k tr0) hgk _ _ _).use [0, 1, 2, 3, 4, 5, 6, 7, 8, 9, 12] ?_ (by (repeat' (first | exact trivial | exact rfl | exact fun _ _ => rfl | exact Or.inl rfl | refine And.intro ?_ ?_))) rfl
      refine And.intro ?_ ⟨k + 1, hlt', by omega, ?_⟩
      · simp [AllP, under, gB, wB, inR_iff, IntKind.bits]
        omega
      · exact ent_tau [0, 1, 2, 3, 4, 5, 6, 7, 8, 9, 10, 11, 12] ⟨by (repeat' (first | exact trivial | exact rfl | exact fun _ _ => rfl | exact Or.inl rfl | refine And.intro ?_ ?_)), by (repeat' (first | exact trivial | exact rfl | exact congrArg (SV.int .i64) (Int.natCast_succ _).symm | refine And.intro ?_ ?_)), rfl⟩
    · have hkl : k = g.length := by
        have : ¬ (k < g.length) := by simpa using hlt
        omega
      subst hkl
      refine And.intro ?_ ?_
      · simp [AllP, under, gB, wB, inR_iff, IntKind.bits]
      refine And.intro trivial ?_
      exact ent_tau [0, 1, 2, 3, 4, 5, 6, 7, 8, 9, 10] ⟨by (repeat' (first | exact trivial | exact rfl | exact fun _ _ => rfl | exact Or.inl rfl | refine And.intro ?_ ?_)), by (repeat' (first | exact trivial | exact rfl | exact congrArg (SV.int .i64) (Int.natCast_succ _).symm | refine And.intro ?_ ?_)), rfl⟩
end Go.Proofs.YtipbempkngfdbaaGreatDoor
/-
  Contract: tide.Height.
-/
namespace Go.Proofs.YtipbempkngfdbaaGreatDoor
open Go Go.Sy
set_option linter.unusedSimpArgs false
set_option maxRecDepth 100000
set_option maxHeartbeats 4000000
attribute [local irreducible] CallP CodeP Ent YieldP
set_option maxHeartbeats 800000

/-- A tide's rows, and the two tables. -/
noncomputable def TD.HG (t : TD) : SHeap := [some (.roa 3 t.nM (row3 t.mi t.mlo t.mhi)), some (.roa 2 t.nS (row2 t.slo t.shi)), some (.roa 4 t.nL (row4 t.lp t.lm t.llo t.lhi)),
  some (.glob 0 [.int .i64 0, .int .i64 1, .int .i64 3, .int .i64 6, .int .i64 9, .int .i64 11, .int .i64 12]), some db]
theorem t71 (t : TD) (m : Int) (hv : t.Valid) : CallP Tryz.prog 29 [.ptr 0 0, .ptr 5 0] (t.shore ++ [some (.roc [.int .i64 m])]) (Ret (.bool (inB m (t.mi 0) (t.mi (t.nM - 1)))) (t.shore ++ [some (.roc [.int .i64 m])])) := by
  have hM := hv.1
  refine callR (E := E) E_ok Tryz.func29 rfl ?_
  refine And.intro ?_ ?_
  · simp [AllP, under, gB, wB, inR_iff, IntKind.bits]
  refine (t57 t (by omega) (by omega) m).use [0, 1, 2, 3, 4] ?_ (by (repeat' (first | exact trivial | exact rfl | exact fun _ _ => rfl | exact Or.inl rfl | refine And.intro ?_ ?_))) rfl
  refine And.intro ?_ ?_
  · simp [AllP, under, gB, wB, inR_iff, IntKind.bits]
  exact ent_tau [0, 1, 2, 3, 4, 5] ⟨by (repeat' (first | exact trivial | exact rfl | exact fun _ _ => rfl | exact Or.inl rfl | refine And.intro ?_ ?_)), by (repeat' (first | exact trivial | exact rfl | exact congrArg (SV.int .i64) (Int.natCast_succ _).symm | refine And.intro ?_ ?_)), rfl⟩
/-- What a function tells, and its error. -/
structure Told (α : Type) where
  v : α
  e : Int
open Classical in
noncomputable def TD.height (t : TD) (m : Int) : Told (Int × Int) :=
  if ¬ t.Valid then ⟨(0, 0), 1⟩ else if ¬ t.isMin m then ⟨(0, 0), 2⟩ else if t.all = [] then ⟨(0, 0), 10⟩ else ⟨(hulLo (fun x => t.stand x.h m) t.all t.all.length, hulHi (fun x => t.stand x.h m) t.all t.all.length), 0⟩
theorem t22 (t : TD) (m : Int) : CallP Tryz.prog 6 [t.A, .int .i64 m] t.HG (Ret (.tup [.agg [.int .i64 (t.height m).v.1, .int .i64 (t.height m).v.2], .int .i64 (t.height m).e]) t.HG) := by
  refine callD (E := E) E_ok Tryz.func6 rfl Tryz.func26 ⟨_, _, _, _, _, _, _, _, rfl, rfl, rfl⟩ rfl rfl ?_
  refine And.intro ?_ ?_
  · simp [AllP, under, gB, wB, inR_iff, IntKind.bits]
  refine CallP.frame (t44_1 t m 29 (.inl rfl) _ (t71 t m)) [0, 1, 2, 6] (by (repeat' (first | exact trivial | exact rfl | exact fun _ _ => rfl | exact Or.inl rfl | refine And.intro ?_ ?_))) (apartB_ok rfl) rfl ?_
  rintro ce h' (⟨hv, hb, rfl, rfl⟩ | ⟨hv, rfl, rfl⟩ | ⟨hv, hb, rfl, rfl⟩)
  · refine ⟨ownB_ok rfl, ?_⟩
    have hm : t.isMin m := inB_iff.1 hb
    refine And.intro ?_ ?_
    · simp [AllP, under, gB, wB, inR_iff, IntKind.bits]
    refine CallP.frame (t48 t hv) [9, 0, 1, 2, 10, 3] (by (repeat' (first | exact trivial | exact rfl | exact fun _ _ => rfl | exact Or.inl rfl | refine And.intro ?_ ?_))) (apartB_ok rfl) rfl ?_
    rintro ce h' (⟨h0, rfl, rfl⟩ | ⟨h0, cap, hc1, hc2, rfl, rfl⟩)
    · refine ⟨ownB_ok rfl, ?_⟩
      have e0 : t.height m = ⟨(0, 0), 10⟩ := by simp [TD.height, hv, hm, h0]
      refine And.intro ?_ ?_
      · simp [AllP, under, gB, wB, inR_iff, IntKind.bits]
      refine (t43_stop 0 10).use [8] ?_ (by (repeat' (first | exact trivial | exact rfl | exact fun _ _ => rfl | exact Or.inl rfl | refine And.intro ?_ ?_))) rfl
      refine And.intro ?_ ⟨_, _, ⟨rfl, rfl⟩, ?_⟩
      · simp [AllP, under, gB, wB, inR_iff, IntKind.bits]
      rw [e0]
      exact ent_tau [0, 1, 2, 3, 4] ⟨by (repeat' (first | exact trivial | exact rfl | exact fun _ _ => rfl | exact Or.inl rfl | refine And.intro ?_ ?_)), by (repeat' (first | exact trivial | exact rfl | exact congrArg (SV.int .i64) (Int.natCast_succ _).symm | refine And.intro ?_ ?_)), rfl⟩
    · refine ⟨ownB_ok rfl, ?_⟩
      have hne : ¬ t.all = [] := fun h => by rw [h] at h0; simp at h0
      have e0 : t.height m = ⟨(hulLo (fun x => t.stand x.h m) t.all t.all.length, hulHi (fun x => t.stand x.h m) t.all t.all.length), 0⟩ := by simp [TD.height, hv, hm, hne]
      have hlen := all_len hv
      have hgood := all_full hv
      refine And.intro ?_ ?_
      · simp [AllP, under, gB, wB, inR_iff, IntKind.bits]
      refine (span73 t hv m hm t.all hgood (by omega) cap).use [9, 0, 1, 2, 10, 3, 11, 6, 12] ?_ (by (repeat' (first | exact trivial | exact rfl | exact fun _ _ => rfl | exact Or.inl rfl | refine And.intro ?_ ?_))) rfl
      refine And.intro ?_ ?_
      · simp [AllP, under, gB, wB, inR_iff, IntKind.bits]
      refine (t43_nil 0).use [8] ?_ (by (repeat' (first | exact trivial | exact rfl | exact fun _ _ => rfl | exact Or.inl rfl | refine And.intro ?_ ?_))) rfl
      refine And.intro ?_ ⟨_, _, ⟨rfl, rfl⟩, ?_⟩
      · simp [AllP, under, gB, wB, inR_iff, IntKind.bits]
      rw [e0]
      exact ent_tau [0, 1, 2, 3, 4] ⟨by (repeat' (first | exact trivial | exact rfl | exact fun _ _ => rfl | exact Or.inl rfl | refine And.intro ?_ ?_)), by (repeat' (first | exact trivial | exact rfl | exact congrArg (SV.int .i64) (Int.natCast_succ _).symm | refine And.intro ?_ ?_)), rfl⟩
  · refine ⟨ownB_ok rfl, ?_⟩
    have e0 : t.height m = ⟨(0, 0), 1⟩ := by simp [TD.height, hv]
    refine And.intro ?_ ?_
    · simp [AllP, under, gB, wB, inR_iff, IntKind.bits]
    refine (t43_stop 0 1).use [8] ?_ (by (repeat' (first | exact trivial | exact rfl | exact fun _ _ => rfl | exact Or.inl rfl | refine And.intro ?_ ?_))) rfl
    refine And.intro ?_ ⟨_, _, ⟨rfl, rfl⟩, ?_⟩
    · simp [AllP, under, gB, wB, inR_iff, IntKind.bits]
    rw [e0]
    exact ent_tau [0, 1, 2, 3, 4] ⟨by (repeat' (first | exact trivial | exact rfl | exact fun _ _ => rfl | exact Or.inl rfl | refine And.intro ?_ ?_)), by (repeat' (first | exact trivial | exact rfl | exact congrArg (SV.int .i64) (Int.natCast_succ _).symm | refine And.intro ?_ ?_)), rfl⟩
  · refine ⟨ownB_ok rfl, ?_⟩
    have hm : ¬ t.isMin m := fun h => by rw [inB_iff.2 h] at hb; cases hb
    have e0 : t.height m = ⟨(0, 0), 2⟩ := by simp [TD.height, hv, hm]
    refine And.intro ?_ ?_
    · simp [AllP, under, gB, wB, inR_iff, IntKind.bits]
    refine (t43_stop 0 2).use [8] ?_ (by (repeat' (first | exact trivial | exact rfl | exact fun _ _ => rfl | exact Or.inl rfl | refine And.intro ?_ ?_))) rfl
    refine And.intro ?_ ⟨_, _, ⟨rfl, rfl⟩, ?_⟩
    · simp [AllP, under, gB, wB, inR_iff, IntKind.bits]
    rw [e0]
    exact ent_tau [0, 1, 2, 3, 4] ⟨by (repeat' (first | exact trivial | exact rfl | exact fun _ _ => rfl | exact Or.inl rfl | refine And.intro ?_ ?_)), by (repeat' (first | exact trivial | exact rfl | exact congrArg (SV.int .i64) (Int.natCast_succ _).symm | refine And.intro ?_ ?_)), rfl⟩
end Go.Proofs.YtipbempkngfdbaaGreatDoor
/-
  The plain law on heights: a height between two marks, as truths have it.
-/
namespace Go.Proofs.YtipbempkngfdbaaGreatDoor
open Go Go.Sy
set_option maxRecDepth 100000

/-! ### The least and the greatest of a list -/
theorem hul_le {a : Tr → Int} {g : List Tr} : ∀ {k : Nat}, ∀ i, i < k → hulLo a g k ≤ a (g.getD i tr0) ∧ a (g.getD i tr0) ≤ hulHi a g k
  | 0, i, h => by omega
  | k + 1, i, h => by
    simp only [hulLo, hulHi, seeLo, seeHi]
    rcases Nat.lt_succ_iff_lt_or_eq.1 h with h | rfl
    · obtain ⟨h1, h2⟩ := hul_le (a := a) (g := g) i h
      have : nz k = true := by cases k <;> first | omega | rfl
      rw [this]
      simp only [if_true]
      constructor <;> split <;> omega
    · constructor <;> split <;> (try split) <;> omega
theorem hul_at {a : Tr → Int} {g : List Tr} : ∀ {k : Nat}, 0 < k → (∃ i, i < k ∧ hulLo a g k = a (g.getD i tr0)) ∧ (∃ i, i < k ∧ hulHi a g k = a (g.getD i tr0))
  | 0, h => by omega
  | k + 1, _ => by
    simp only [hulLo, hulHi, seeLo, seeHi]
    cases k with
    | zero => exact ⟨⟨0, by omega, by simp [nz]⟩, ⟨0, by omega, by simp [nz]⟩⟩
    | succ k =>
      obtain ⟨⟨i, hi, e1⟩, ⟨j, hj, e2⟩⟩ := hul_at (a := a) (g := g) (k := k + 1) (by omega)
      refine ⟨?_, ?_⟩
      · by_cases h : hulLo a g (k + 1) ≤ a (g.getD (k + 1) tr0)
        · exact ⟨i, by omega, by simp only [nz, if_true, if_pos h]; exact e1⟩
        · exact ⟨k + 1, by omega, by simp only [nz, if_true, if_neg h]⟩
      · by_cases h : a (g.getD (k + 1) tr0) ≤ hulHi a g (k + 1)
        · exact ⟨j, by omega, by simp only [nz, if_true, if_pos h]; exact e2⟩
        · exact ⟨k + 1, by omega, by simp only [nz, if_true, if_neg h]⟩
theorem hul_mem {a : Tr → Int} {g : List Tr} {x : Tr} (hx : x ∈ g) : hulLo a g g.length ≤ a x ∧ a x ≤ hulHi a g g.length := by
  obtain ⟨i, hi, rfl⟩ := List.getElem_of_mem hx
  have := hul_le (a := a) (g := g) (k := g.length) i hi
  rwa [List.getD_eq_getElem?_getD, List.getElem?_eq_getElem hi] at this
theorem hul_ex {a : Tr → Int} {g : List Tr} (hg : g ≠ []) : (∃ x ∈ g, hulLo a g g.length = a x) ∧ (∃ x ∈ g, hulHi a g g.length = a x) := by
  obtain ⟨⟨i, hi, e1⟩, ⟨j, hj, e2⟩⟩ := hul_at (a := a) (g := g) (k := g.length) (List.length_pos_iff.2 hg)
  exact ⟨⟨_, getD_mem hi, e1⟩, ⟨_, getD_mem hj, e2⟩⟩

/-! ### Heights of a truth -/
/-! ### How far the water has moved -/
def moved (lg d : Int) : Int := tw (6 * d / lg) * lg + (tw (6 * d / lg + 1) - tw (6 * d / lg)) * (6 * d % lg)
theorem tw_mono {a b : Int} (h : a ≤ b) : tw a ≤ tw b := by
  unfold tw
  repeat' split
  all_goals omega
theorem moved_mono {lg d d' : Int} (hl : 0 < lg) (h : d ≤ d') : moved lg d ≤ moved lg d' := by
  unfold moved
  have e1 := Int.mul_ediv_add_emod (6 * d) lg
  have e2 := Int.mul_ediv_add_emod (6 * d') lg
  have r1 := Int.emod_nonneg (6 * d) (b := lg) (by omega)
  have r2 := Int.emod_nonneg (6 * d') (b := lg) (by omega)
  have r3 := Int.emod_lt_of_pos (6 * d) hl
  have hq : 6 * d / lg ≤ 6 * d' / lg := Int.ediv_le_ediv hl (by omega)
  generalize 6 * d / lg = q at *
  generalize 6 * d' / lg = q' at *
  generalize 6 * d % lg = r at *
  generalize 6 * d' % lg = r' at *
  have s1 := tw_step q
  have s2 := tw_step q'
  rcases Int.lt_or_eq_of_le hq with hlt | rfl
  · have m1 : tw (q + 1) ≤ tw q' := tw_mono (by omega)
    have a1 : (tw (q + 1) - tw q) * r ≤ (tw (q + 1) - tw q) * lg := Int.mul_le_mul_of_nonneg_left (by omega) (by omega)
    have a2 : tw (q + 1) * lg ≤ tw q' * lg := Int.mul_le_mul_of_nonneg_right m1 (by omega)
    have a3 : 0 ≤ (tw (q' + 1) - tw q') * r' := Int.mul_nonneg (by omega) r2
    have a4 : (tw (q + 1) - tw q) * lg = tw (q + 1) * lg - tw q * lg := Int.sub_mul ..
    omega
  · have : r ≤ r' := by omega
    have a1 : (tw (q + 1) - tw q) * r ≤ (tw (q + 1) - tw q) * r' := Int.mul_le_mul_of_nonneg_left this (by omega)
    omega
theorem moved_zero (lg : Int) : moved lg 0 = 0 := by simp [moved, tw]
theorem moved_all {lg : Int} (hl : 0 < lg) : moved lg lg = 12 * lg := by
  unfold moved
  rw [Int.mul_ediv_cancel 6 (by omega), Int.mul_emod_left]
  simp [tw]
/-- Between heights a and b. -/
def mid (a b lg f : Int) : Int := (a * (12 * lg - f) + b * f) / (12 * lg)
theorem mid_zero {a b lg : Int} (hl : 0 < lg) : mid a b lg 0 = a := by
  unfold mid
  rw [Int.sub_zero, Int.mul_zero, Int.add_zero, Int.mul_ediv_cancel a (by omega)]
theorem mid_all {a b lg : Int} (hl : 0 < lg) : mid a b lg (12 * lg) = b := by
  unfold mid
  rw [Int.sub_self, Int.mul_zero, Int.zero_add, Int.mul_ediv_cancel b (by omega)]
end Go.Proofs.YtipbempkngfdbaaGreatDoor
/-
  The plain law of TideMoves.
-/
namespace Go.Proofs.YtipbempkngfdbaaGreatDoor
open Go Go.Sy
set_option maxRecDepth 100000

theorem mi_le {t : TD} (hv : t.Valid) : ∀ {j i : Nat}, i ≤ j → j < t.nM → t.mi i ≤ t.mi j
  | 0, i, h, _ => by
    have : i = 0 := by omega
    subst this
    exact Int.le_refl _
  | j + 1, i, h, hj => by
    rcases Nat.eq_or_lt_of_le h with rfl | h'
    · exact Int.le_refl _
    · have h1 := mi_le hv (j := j) (i := i) (by omega) (by omega)
      have h2 := hv.step (i := j + 1) (by omega) hj
      have e : j + 1 - 1 = j := by omega
      rw [e] at h2
      omega

theorem stand_nx {t : TD} (hv : t.Valid) {m : Int} (hm : t.isMin m) (h : Nat → Int) :
    t.stand h m = mid (h (t.nx m - 1)) (h (t.nx m)) (t.mi (t.nx m) - t.mi (t.nx m - 1)) (moved (t.mi (t.nx m) - t.mi (t.nx m - 1)) (m - t.mi (t.nx m - 1))) := by
  obtain ⟨g1, g2, g3, g4⟩ := TD.stand_spec hv hm
  simp only [TD.stand, mid, moved]
  have r1 := Int.emod_nonneg (6 * (m - t.mi (t.nx m - 1))) (b := t.mi (t.nx m) - t.mi (t.nx m - 1)) (by omega)
  split
  · rfl
  · rename_i hr
    have e : 6 * (m - t.mi (t.nx m - 1)) % (t.mi (t.nx m) - t.mi (t.nx m - 1)) = 0 := by omega
    rw [e, Int.mul_zero]

theorem stand_at {t : TD} (hv : t.Valid) {i : Nat} (h1 : 1 ≤ i) (hi : i < t.nM) {m : Int} (ha : t.mi (i - 1) ≤ m) (hb : m ≤ t.mi i) (h : Nat → Int) :
    t.stand h m = mid (h (i - 1)) (h i) (t.mi i - t.mi (i - 1)) (moved (t.mi i - t.mi (i - 1)) (m - t.mi (i - 1))) := by
  have hm : t.isMin m := ⟨Int.le_trans (mi_le hv (Nat.zero_le _) (by omega)) ha, Int.le_trans hb (mi_le hv (by omega) (by have := hv.1.1; omega))⟩
  rw [stand_nx hv hm]
  obtain ⟨k1, k2, k3, k4, k5⟩ := t.nx_spec hv hm
  obtain ⟨g1, g2, g3, g4⟩ := TD.stand_spec hv hm
  have st := hv.step (i := i) (by omega) hi
  rcases Nat.lt_trichotomy (t.nx m) i with hk | hk | hk
  · have h2 := mi_le hv (i := t.nx m) (j := i - 1) (by omega) (by omega)
    have h3 : t.nx m = i - 1 := by
      rcases Nat.eq_or_lt_of_le (show t.nx m ≤ i - 1 by omega) with h | h
      · exact h
      · have h4 := mi_le hv (i := t.nx m) (j := i - 1 - 1) (by omega) (by omega)
        have h5 := hv.step (i := i - 1) (by omega) (by omega)
        omega
    have e1 : m - t.mi (i - 1) = 0 := by omega
    have e2 : m - t.mi (t.nx m - 1) = t.mi (t.nx m) - t.mi (t.nx m - 1) := by omega
    rw [e1, e2, moved_zero, moved_all (by omega), mid_zero (by omega), mid_all (by omega), h3]
  · rw [hk]
  · have := k5 i h1 hk
    omega

/-- What is told of the height at a minute, where there are truths. -/
structure Hull (t : TD) (m lo hi : Int) : Prop where
  v : t.height m = ⟨(lo, hi), 0⟩
  bnd : ∀ x ∈ t.all, lo ≤ t.stand x.h m ∧ t.stand x.h m ≤ hi
  lo : ∃ x ∈ t.all, t.stand x.h m = lo
  hi : ∃ x ∈ t.all, t.stand x.h m = hi
theorem hull {t : TD} (hv : t.Valid) (hn : t.all ≠ []) {m : Int} (hm : t.isMin m) : ∃ lo hi, Hull t m lo hi := by
  refine ⟨_, _, ⟨by unfold TD.height; rw [if_neg (fun h => h hv), if_neg (fun h => h hm), if_neg hn], fun x hx => hul_mem hx, ?_, ?_⟩⟩
  · obtain ⟨⟨x, hx, e⟩, _⟩ := hul_ex (a := fun x => t.stand x.h m) hn
    exact ⟨x, hx, e.symm⟩
  · obtain ⟨_, x, hx, e⟩ := hul_ex (a := fun x => t.stand x.h m) hn
    exact ⟨x, hx, e.symm⟩

end Go.Proofs.YtipbempkngfdbaaGreatDoor
