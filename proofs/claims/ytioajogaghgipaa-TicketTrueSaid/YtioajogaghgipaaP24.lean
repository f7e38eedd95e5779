/-
  Parts: B22.
-/
import Derived.Test.YtioajogaghgipaaP23
import Derived.Test.YtioajogaghgipaaP20
set_option linter.unusedVariables false
/-
 Whose turn it is: one truth.
-/
namespace Go.Proofs.Ytioajogaghgipaa
open Go Go.Sy Tic
set_option linter.unusedSimpArgs false
set_option maxRecDepth 100000
set_option maxHeartbeats 4000000
attribute [local irreducible] CallP CodeP Ent YieldP
set_option maxHeartbeats 16000000

noncomputable def L20 (st : LoopState) (p : Option Code) : SObj := .loopr [none, none, some (.ptr 5 0), some (.ptr 6 0), none, none, none, none, some (.ptr 7 0), some (.ptr 9 0), some (.ptr 10 0), none, none, none, none, none, none, none, none, none, none, none, none, none, none, none, none, none, none, none, none, none, none, none, none, none, none, none, none, none, none, none, none, none, none, none, none, none, none, none, none, none, none, none, none, none, none, none, none, none, none, none, none, none, none, none, none, none, none, none, none, none, none, none, none, none, none, none, none] #[24] (asOf Try.f20) (bodyOf Try.f20) st p
noncomputable def P20 (t : TK) (m : Int) (g : Wh) (st : LoopState) (p : Option Code) : List (Nat × SObj) := [(4, L20 st p), (5, .cells (tb t)), (6, .cells [.int .i64 m]), (7, .cells [.map 8]), (8, .gmap g100 g.1), (9, .cells [.int .i64 (g.2.1 % 32 : Nat)]), (10, .cells [.bool g.2.2])]
noncomputable def C20 (t : TK) (m : Int) (g : Wh) (b : Bool) : OB := packR (P20 t m g (bif b then .ready else .done) (bif b then none else some .ret))
noncomputable def HU20 (t : TK) (m : Int) (bo : Bool) (co : Nat) (g : Wh) (st : LoopState) (p : Option Code) : SHeap :=
 [some (.roa 5 t.n (TF t)), some (.roc [.int .i64 t.huts, .osl t.b 0 5 t.n t.cap, .osl bo 2 1 t.n co]), some (.roa 1 t.n (rowO (ord t))), some (.roc [.ptr 1 0]), some (L20 st p), some (.cells (tb t)), some (.cells [.int .i64 m]), some (.cells [.map 8]), some (.gmap g100 g.1), some (.cells [.int .i64 (g.2.1 % 32 : Nat)]), some (.cells [.bool g.2.2]), some .dead, some .dead]
theorem up20 (t : TK) (m : Int) (bo : Bool) (co : Nat) (g : Wh) (x : Tru) : Ent 13 ⟨argT [.agg (trV x)], HI t bo co (C20 t m g true), []⟩ ⟨argT [.agg (trV x)], HU20 t m bo co g .ready none, []⟩ :=
 entUnpack (n := 13) (T := argT [.agg (trV x)]) (H := HI t bo co (C20 t m g true)) (D := []) NS (P20 t m g .ready none) 4 rfl rfl rfl ⟨trivial, trivial, trivial, trivial, trivial, trivial, trivial, trivial⟩
theorem pk20 (t : TK) (m : Int) (bo : Bool) (co : Nat) (g : Wh) (T : Tm) : Ent 13 ⟨T, HU20 t m bo co g .ready none, []⟩ ⟨T, HI t bo co (C20 t m g true), []⟩ :=
 entPack (n := 13) (T := T) (H := HU20 t m bo co g .ready none) (D := []) NS (P20 t m g .ready none) 4 (by (repeat' first|exact fp|refine aN ?_ ?_)) rfl rfl
def keyV (x : Tru) (m : Int) (n : Nat) : List SV := [.int .i64 (kp x m n 0).1, .int .i64 (kp x m n 0).2, .int .i64 (kp x m n 1).1, .int .i64 (kp x m n 1).2, .int .i64 (kp x m n 2).1, .int .i64 (kp x m n 2).2, .int .i64 (kp x m n 3).1, .int .i64 (kp x m n 3).2, .int .i64 (kp x m n 4).1, .int .i64 (kp x m n 4).2]
def pl20_26s : Plan := eg [1, 2] <| .alt 0 (.alt 3 (.alt 4 (.alt 5 (.done) .no) .no) .no) .no
theorem kp_other {x : Tru} {m : Int} {k j : Nat} (h : j ≠ k) : kp x m (k + 1) j = kp x m k j := by
 unfold kp
 have : decide (j < k + 1) = decide (j < k) := decide_eq_decide.2 ⟨fun _ => by omega, fun _ => by omega⟩
 rw [this]
theorem kp_none {x : Tru} {m : Int} {k : Nat} (j : Nat) (h : k ≤ j) : kp x m k j = (-1, -1) := by
 unfold kp
 rw [decide_eq_false (by omega), Bool.false_and]
theorem kp_yes {x : Tru} {m : Int} {k : Nat} (h : inI m (x k).1 (x k).2 = true) : kp x m (k + 1) k = x k := by
 unfold kp
 rw [decide_eq_true (Nat.lt_succ_self k), h]
 rfl
theorem kp_no {x : Tru} {m : Int} {k : Nat} (h : inI m (x k).1 (x k).2 = false) : kp x m (k + 1) k = kp x m k k := by
 rw [kp_none k (Nat.le_refl _)]
 unfold kp
 rw [h, Bool.and_false]
theorem kv_no {x : Tru} {m : Int} {k : Nat} (h : inI m (x k).1 (x k).2 = false) : keyV x m (k + 1) = keyV x m k := by
 have e : ∀ j, kp x m (k + 1) j = kp x m k j := fun j => by
  by_cases c : j = k
  ·subst c
   exact kp_no h
  ·exact kp_other c
 unfold keyV
 rw [e 0, e 1, e 2, e 3, e 4]
theorem now_no {x : Tru} {m : Int} {k : Nat} (h : inI m (x k).1 (x k).2 = false) : now x m (k + 1) = now x m k := by
 rw [now, h]
 rfl
theorem now_one {x : Tru} {m : Int} {k : Nat} (h : inI m (x k).1 (x k).2 = true) (h2 : now x m k = -1) : now x m (k + 1) = k := by
 rw [now, h, h2]
 rfl
theorem now_two {x : Tru} {m : Int} {k f : Nat} {b : Bool} (h : inI m (x k).1 (x k).2 = true) (h2 : now x m k = (f : Nat)) (h3 : before x k f = b) : now x m (k + 1) = bif b then (k : Int) else (f : Nat) := by
 rw [now, h, h2, Int.toNat_natCast, h3, decide_eq_false (by omega)]
 cases b <;> rfl
theorem kv_yes0 {x : Tru} {m : Int} (h : inI m (x 0).1 (x 0).2 = true) : keyV x m 1 = [.int .i64 (x 0).1, .int .i64 (x 0).2, .int .i64 (kp x m 0 1).1, .int .i64 (kp x m 0 1).2, .int .i64 (kp x m 0 2).1, .int .i64 (kp x m 0 2).2, .int .i64 (kp x m 0 3).1, .int .i64 (kp x m 0 3).2, .int .i64 (kp x m 0 4).1, .int .i64 (kp x m 0 4).2] := by
 unfold keyV
 rw [kp_yes (k := 0) h, kp_other (x := x) (m := m) (k := 0) (j := 1) (by decide), kp_other (x := x) (m := m) (k := 0) (j := 2) (by decide), kp_other (x := x) (m := m) (k := 0) (j := 3) (by decide), kp_other (x := x) (m := m) (k := 0) (j := 4) (by decide)]
theorem kv_yes1 {x : Tru} {m : Int} (h : inI m (x 1).1 (x 1).2 = true) : keyV x m 2 = [.int .i64 (kp x m 1 0).1, .int .i64 (kp x m 1 0).2, .int .i64 (x 1).1, .int .i64 (x 1).2, .int .i64 (kp x m 1 2).1, .int .i64 (kp x m 1 2).2, .int .i64 (kp x m 1 3).1, .int .i64 (kp x m 1 3).2, .int .i64 (kp x m 1 4).1, .int .i64 (kp x m 1 4).2] := by
 unfold keyV
 rw [kp_yes (k := 1) h, kp_other (x := x) (m := m) (k := 1) (j := 0) (by decide), kp_other (x := x) (m := m) (k := 1) (j := 2) (by decide), kp_other (x := x) (m := m) (k := 1) (j := 3) (by decide), kp_other (x := x) (m := m) (k := 1) (j := 4) (by decide)]
theorem kv_yes2 {x : Tru} {m : Int} (h : inI m (x 2).1 (x 2).2 = true) : keyV x m 3 = [.int .i64 (kp x m 2 0).1, .int .i64 (kp x m 2 0).2, .int .i64 (kp x m 2 1).1, .int .i64 (kp x m 2 1).2, .int .i64 (x 2).1, .int .i64 (x 2).2, .int .i64 (kp x m 2 3).1, .int .i64 (kp x m 2 3).2, .int .i64 (kp x m 2 4).1, .int .i64 (kp x m 2 4).2] := by
 unfold keyV
 rw [kp_yes (k := 2) h, kp_other (x := x) (m := m) (k := 2) (j := 0) (by decide), kp_other (x := x) (m := m) (k := 2) (j := 1) (by decide), kp_other (x := x) (m := m) (k := 2) (j := 3) (by decide), kp_other (x := x) (m := m) (k := 2) (j := 4) (by decide)]
theorem kv_yes3 {x : Tru} {m : Int} (h : inI m (x 3).1 (x 3).2 = true) : keyV x m 4 = [.int .i64 (kp x m 3 0).1, .int .i64 (kp x m 3 0).2, .int .i64 (kp x m 3 1).1, .int .i64 (kp x m 3 1).2, .int .i64 (kp x m 3 2).1, .int .i64 (kp x m 3 2).2, .int .i64 (x 3).1, .int .i64 (x 3).2, .int .i64 (kp x m 3 4).1, .int .i64 (kp x m 3 4).2] := by
 unfold keyV
 rw [kp_yes (k := 3) h, kp_other (x := x) (m := m) (k := 3) (j := 0) (by decide), kp_other (x := x) (m := m) (k := 3) (j := 1) (by decide), kp_other (x := x) (m := m) (k := 3) (j := 2) (by decide), kp_other (x := x) (m := m) (k := 3) (j := 4) (by decide)]
theorem kv_yes4 {x : Tru} {m : Int} (h : inI m (x 4).1 (x 4).2 = true) : keyV x m 5 = [.int .i64 (kp x m 4 0).1, .int .i64 (kp x m 4 0).2, .int .i64 (kp x m 4 1).1, .int .i64 (kp x m 4 1).2, .int .i64 (kp x m 4 2).1, .int .i64 (kp x m 4 2).2, .int .i64 (kp x m 4 3).1, .int .i64 (kp x m 4 3).2, .int .i64 (x 4).1, .int .i64 (x 4).2] := by
 unfold keyV
 rw [kp_yes (k := 4) h, kp_other (x := x) (m := m) (k := 4) (j := 0) (by decide), kp_other (x := x) (m := m) (k := 4) (j := 1) (by decide), kp_other (x := x) (m := m) (k := 4) (j := 2) (by decide), kp_other (x := x) (m := m) (k := 4) (j := 3) (by decide)]
theorem y20 (t : TK) (hv : t.Valid) (m : Int) (bo : Bool) (co : Nat) (g : Wh) (x : Tru) (hx : x ∈ t.trs) :
  YieldP Try.prog 4 [.agg (trV x)] (HI t bo co (C20 t m g true)) (Ret (.bool (stepM (stW m t.n) g x).2) (HI t bo co (C20 t m (stepM (stW m t.n) g x).1 (stepM (stW m t.n) g x).2))) := by
 have hn := hv.2.1
 have hb := trs_bnd2 hv hx
 have hpk := pk20 t m bo co
 refine YieldP.pre (up20 t m bo co g x) (show (4 : Nat) < 13 by decide) ?_
 simp only [stepM]
 refine YieldP.ent (roundP E_ok rfl rfl fun l => ?_)
 (repeat' first|exact ap|refine aN ?_ ?_)
 refine loopP E_ok [2, 3, 8, 9, 10, 11, 12, 13] (fun i : Nat => [(26, .int .i64 i)]) (fun i _ => match i with
   | 0 => HU20 t m bo co g .busy none ++ [some (.cells (trV x)), some (.cells [.int .i64 0, .int .i64 0, .int .i64 0, .int .i64 0, .int .i64 0, .int .i64 0, .int .i64 0, .int .i64 0, .int .i64 0, .int .i64 0])]
   | 1 => HU20 t m bo co g .busy none ++ [some (.cells (trV x)), some (.cells [.int .i64 (-1), .int .i64 (-1), .int .i64 0, .int .i64 0, .int .i64 0, .int .i64 0, .int .i64 0, .int .i64 0, .int .i64 0, .int .i64 0])]
   | 2 => HU20 t m bo co g .busy none ++ [some (.cells (trV x)), some (.cells [.int .i64 (-1), .int .i64 (-1), .int .i64 (-1), .int .i64 (-1), .int .i64 0, .int .i64 0, .int .i64 0, .int .i64 0, .int .i64 0, .int .i64 0])]
   | 3 => HU20 t m bo co g .busy none ++ [some (.cells (trV x)), some (.cells [.int .i64 (-1), .int .i64 (-1), .int .i64 (-1), .int .i64 (-1), .int .i64 (-1), .int .i64 (-1), .int .i64 0, .int .i64 0, .int .i64 0, .int .i64 0])]
   | 4 => HU20 t m bo co g .busy none ++ [some (.cells (trV x)), some (.cells [.int .i64 (-1), .int .i64 (-1), .int .i64 (-1), .int .i64 (-1), .int .i64 (-1), .int .i64 (-1), .int .i64 (-1), .int .i64 (-1), .int .i64 0, .int .i64 0])]
   | _ => HU20 t m bo co g .busy none ++ [some (.cells (trV x)), some (.cells [.int .i64 (-1), .int .i64 (-1), .int .i64 (-1), .int .i64 (-1), .int .i64 (-1), .int .i64 (-1), .int .i64 (-1), .int .i64 (-1), .int .i64 (-1), .int .i64 (-1)])]) (fun i => i ≤ 5) (fun i => 5 - i) 0 (Nat.zero_le _) ?_ ?_
 ·exact ent_tau [0, 1, 2, 3, 4, 5, 6, 7, 8, 9, 10, 11, 12, 13, 14] ⟨by (repeat' first|exact fp|refine aN ?_ ?_), by (repeat' first|exact tm|refine aN ?_ ?_), rfl⟩
 rintro i hi
 have hi2 : i = 0 ∨ i = 1 ∨ i = 2 ∨ i = 3 ∨ i = 4 ∨ i = 5 := by omega
 rcases hi2 with rfl | rfl | rfl | rfl | rfl | rfl
 ·all_goals (repeat' first|exact ap|refine aN ?_ ?_)
  all_goals first | exact gd | skip
  all_goals intro h1
  all_goals first | exact absurd h1 (by decide) | (cases h1; done) | skip
  (repeat' first|exact ap|refine aN ?_ ?_)
  all_goals first | exact om | skip
  all_goals first | exact Nat.le_of_ble_eq_true rfl | skip
  refine ⟨1, by omega, by omega, ?_⟩
  exact ent_tau [0, 1, 2, 3, 4, 5, 6, 7, 8, 9, 10, 11, 12, 13, 14] ⟨by (repeat' first|exact fp|refine aN ?_ ?_), by (repeat' first|exact tm|refine aN ?_ ?_), rfl⟩
 ·all_goals (repeat' first|exact ap|refine aN ?_ ?_)
  all_goals first | exact gd | skip
  all_goals intro h1
  all_goals first | exact absurd h1 (by decide) | (cases h1; done) | skip
  (repeat' first|exact ap|refine aN ?_ ?_)
  all_goals first | exact om | skip
  all_goals first | exact Nat.le_of_ble_eq_true rfl | skip
  refine ⟨2, by omega, by omega, ?_⟩
  exact ent_tau [0, 1, 2, 3, 4, 5, 6, 7, 8, 9, 10, 11, 12, 13, 14] ⟨by (repeat' first|exact fp|refine aN ?_ ?_), by (repeat' first|exact tm|refine aN ?_ ?_), rfl⟩
 ·all_goals (repeat' first|exact ap|refine aN ?_ ?_)
  all_goals first | exact gd | skip
  all_goals intro h1
  all_goals first | exact absurd h1 (by decide) | (cases h1; done) | skip
  (repeat' first|exact ap|refine aN ?_ ?_)
  all_goals first | exact om | skip
  all_goals first | exact Nat.le_of_ble_eq_true rfl | skip
  refine ⟨3, by omega, by omega, ?_⟩
  exact ent_tau [0, 1, 2, 3, 4, 5, 6, 7, 8, 9, 10, 11, 12, 13, 14] ⟨by (repeat' first|exact fp|refine aN ?_ ?_), by (repeat' first|exact tm|refine aN ?_ ?_), rfl⟩
 ·all_goals (repeat' first|exact ap|refine aN ?_ ?_)
  all_goals first | exact gd | skip
  all_goals intro h1
  all_goals first | exact absurd h1 (by decide) | (cases h1; done) | skip
  (repeat' first|exact ap|refine aN ?_ ?_)
  all_goals first | exact om | skip
  all_goals first | exact Nat.le_of_ble_eq_true rfl | skip
  refine ⟨4, by omega, by omega, ?_⟩
  exact ent_tau [0, 1, 2, 3, 4, 5, 6, 7, 8, 9, 10, 11, 12, 13, 14] ⟨by (repeat' first|exact fp|refine aN ?_ ?_), by (repeat' first|exact tm|refine aN ?_ ?_), rfl⟩
 ·all_goals (repeat' first|exact ap|refine aN ?_ ?_)
  all_goals first | exact gd | skip
  all_goals intro h1
  all_goals first | exact absurd h1 (by decide) | (cases h1; done) | skip
  (repeat' first|exact ap|refine aN ?_ ?_)
  all_goals first | exact om | skip
  all_goals first | exact Nat.le_of_ble_eq_true rfl | skip
  refine ⟨5, by omega, by omega, ?_⟩
  exact ent_tau [0, 1, 2, 3, 4, 5, 6, 7, 8, 9, 10, 11, 12, 13, 14] ⟨by (repeat' first|exact fp|refine aN ?_ ?_), by (repeat' first|exact tm|refine aN ?_ ?_), rfl⟩
 all_goals (repeat' first|exact ap|refine aN ?_ ?_)
 all_goals first | exact gd | skip
 all_goals intro h1
 all_goals first | exact absurd h1 (by decide) | (cases h1; done) | skip
 (repeat' first|exact ap|refine aN ?_ ?_)
 all_goals first | exact om | skip
 refine loopP E_ok [2, 3, 8, 9, 10, 11, 13, 34, 35] (fun i : Nat => [(12, .int .i64 (now x m i)), (36, .int .i64 i)]) (fun i _ => HU20 t m bo co g .busy none ++ [some (.cells (trV x)), some (.cells (keyV x m i))]) (fun i => i ≤ t.n) (fun i => t.n - i) 0 (Nat.zero_le _) ?_ ?_
 ·exact ent_tau [0, 1, 2, 3, 4, 5, 6, 7, 8, 9, 10, 11, 12, 13, 14] ⟨by (repeat' first|exact fp|refine aN ?_ ?_), by (repeat' first|exact tm|refine aN ?_ ?_), rfl⟩
 rintro i hi
 refine And.intro ?_ (And.intro (fun hc => ?_) (fun hc => ?_))
 ·(repeat' first|exact ap|refine aN ?_ ?_)
 ·have hlt : i < t.n := by
   have := of_decide_eq_true hc
   omega
  have hi4 : i = 0 ∨ i = 1 ∨ i = 2 ∨ i = 3 ∨ i = 4 := by omega
  rcases hi4 with rfl | rfl | rfl | rfl | rfl
  ·have c68 := t68 (x 0).1 (x 0).2 m
   have hrk := now_rng x m 0
   cases hw : inI m (x 0).1 (x 0).2 with
   | false =>
    rw [hw] at c68
    (repeat' first|exact ap|refine aN ?_ ?_)
    all_goals first | exact om | skip
    refine drawP E_ok [6, 13] pl20_17 (by kernel_rfl) ?_
    (repeat' first|exact ap|refine aN ?_ ?_)
    all_goals first | exact om | skip
    all_goals first | exact u0 (Nat.le_of_ble_eq_true rfl) | exact Nat.le_of_ble_eq_true rfl | skip
    refine c68.use [] ?_ trivial rfl
    all_goals (repeat' first|exact ap|refine aN ?_ ?_)
    all_goals first | exact gd | skip
    all_goals intro h1
    all_goals first | exact absurd h1 (by decide) | (cases h1; done) | skip
    (repeat' first|exact ap|refine aN ?_ ?_)
    all_goals first | exact om | skip
    refine ⟨1, by omega, by omega, ?_⟩
    rw [now_no hw, kv_no hw]
    exact ent_tau [0, 1, 2, 3, 4, 5, 6, 7, 8, 9, 10, 11, 12, 13, 14] ⟨by (repeat' first|exact fp|refine aN ?_ ?_), by (repeat' first|exact tm|refine aN ?_ ?_), rfl⟩
   | true =>
    rw [hw] at c68
    have hN : now x m 0 = -1 ∨ ∃ f : Nat, now x m 0 = (f : Nat) ∧ f < 0 := by
     by_cases c : now x m 0 < 0
     ·exact .inl (by omega)
     ·exact .inr ⟨(now x m 0).toNat, by omega, by omega⟩
    rcases hN with hN | ⟨f, hN, hf⟩
    ·rw [hN]
     (repeat' first|exact ap|refine aN ?_ ?_)
     all_goals first | exact om | skip
     refine drawP E_ok [6, 13] pl20_17 (by kernel_rfl) ?_
     (repeat' first|exact ap|refine aN ?_ ?_)
     all_goals first | exact om | skip
     all_goals first | exact u0 (Nat.le_of_ble_eq_true rfl) | exact Nat.le_of_ble_eq_true rfl | skip
     refine c68.use [] ?_ trivial rfl
     all_goals (repeat' first|exact ap|refine aN ?_ ?_)
     all_goals first | exact gd | skip
     all_goals intro h1
     all_goals first | exact absurd h1 (by decide) | (cases h1; done) | skip
     (repeat' first|exact ap|refine aN ?_ ?_)
     all_goals first | exact om | skip
     all_goals first | exact u0 (Nat.le_of_ble_eq_true rfl) | exact Nat.le_of_ble_eq_true rfl | skip
     all_goals (repeat' first|exact ap|refine aN ?_ ?_)
     all_goals first | exact gd | skip
     all_goals intro h2
     all_goals first | exact absurd h2 (by decide) | (cases h2; done) | skip
     (repeat' first|exact ap|refine aN ?_ ?_)
     all_goals first | exact om | skip
     all_goals (repeat' first|exact ap|refine aN ?_ ?_)
     all_goals first | exact gd | skip
     all_goals intro h3
     all_goals first | exact absurd h3 (by decide) | (cases h3; done) | skip
     (repeat' first|exact ap|refine aN ?_ ?_)
     all_goals first | exact om | skip
     refine ⟨1, by omega, by omega, ?_⟩
     rw [now_one hw hN]
     refine ent_tau [0, 1, 2, 3, 4, 5, 6, 7, 8, 9, 10, 11, 12, 13, 14] ⟨?_, by (repeat' first|exact tm|refine aN ?_ ?_), rfl⟩
     (repeat' first|exact fp|refine aN ?_ ?_)
     all_goals exact (kv_yes0 hw).symm
    ·exact absurd hf (Nat.not_lt_zero _)
  ·have c68 := t68 (x 1).1 (x 1).2 m
   have hrk := now_rng x m 1
   cases hw : inI m (x 1).1 (x 1).2 with
   | false =>
    rw [hw] at c68
    (repeat' first|exact ap|refine aN ?_ ?_)
    all_goals first | exact om | skip
    refine drawP E_ok [6, 13] pl20_17 (by kernel_rfl) ?_
    (repeat' first|exact ap|refine aN ?_ ?_)
    all_goals first | exact om | skip
    all_goals first | exact u0 (Nat.le_of_ble_eq_true rfl) | exact Nat.le_of_ble_eq_true rfl | skip
    refine c68.use [] ?_ trivial rfl
    all_goals (repeat' first|exact ap|refine aN ?_ ?_)
    all_goals first | exact gd | skip
    all_goals intro h1
    all_goals first | exact absurd h1 (by decide) | (cases h1; done) | skip
    (repeat' first|exact ap|refine aN ?_ ?_)
    all_goals first | exact om | skip
    refine ⟨2, by omega, by omega, ?_⟩
    rw [now_no hw, kv_no hw]
    exact ent_tau [0, 1, 2, 3, 4, 5, 6, 7, 8, 9, 10, 11, 12, 13, 14] ⟨by (repeat' first|exact fp|refine aN ?_ ?_), by (repeat' first|exact tm|refine aN ?_ ?_), rfl⟩
   | true =>
    rw [hw] at c68
    have hN : now x m 1 = -1 ∨ ∃ f : Nat, now x m 1 = (f : Nat) ∧ f < 1 := by
     by_cases c : now x m 1 < 0
     ·exact .inl (by omega)
     ·exact .inr ⟨(now x m 1).toNat, by omega, by omega⟩
    rcases hN with hN | ⟨f, hN, hf⟩
    ·rw [hN]
     (repeat' first|exact ap|refine aN ?_ ?_)
     all_goals first | exact om | skip
     refine drawP E_ok [6, 13] pl20_17 (by kernel_rfl) ?_
     (repeat' first|exact ap|refine aN ?_ ?_)
     all_goals first | exact om | skip
     all_goals first | exact u0 (Nat.le_of_ble_eq_true rfl) | exact Nat.le_of_ble_eq_true rfl | skip
     refine c68.use [] ?_ trivial rfl
     all_goals (repeat' first|exact ap|refine aN ?_ ?_)
     all_goals first | exact gd | skip
     all_goals intro h1
     all_goals first | exact absurd h1 (by decide) | (cases h1; done) | skip
     (repeat' first|exact ap|refine aN ?_ ?_)
     all_goals first | exact om | skip
     all_goals first | exact u0 (Nat.le_of_ble_eq_true rfl) | exact Nat.le_of_ble_eq_true rfl | skip
     all_goals (repeat' first|exact ap|refine aN ?_ ?_)
     all_goals first | exact gd | skip
     all_goals intro h2
     all_goals first | exact absurd h2 (by decide) | (cases h2; done) | skip
     (repeat' first|exact ap|refine aN ?_ ?_)
     all_goals first | exact om | skip
     all_goals (repeat' first|exact ap|refine aN ?_ ?_)
     all_goals first | exact gd | skip
     all_goals intro h3
     all_goals first | exact absurd h3 (by decide) | (cases h3; done) | skip
     (repeat' first|exact ap|refine aN ?_ ?_)
     all_goals first | exact om | skip
     refine ⟨2, by omega, by omega, ?_⟩
     rw [now_one hw hN]
     refine ent_tau [0, 1, 2, 3, 4, 5, 6, 7, 8, 9, 10, 11, 12, 13, 14] ⟨?_, by (repeat' first|exact tm|refine aN ?_ ?_), rfl⟩
     (repeat' first|exact fp|refine aN ?_ ?_)
     all_goals exact (kv_yes1 hw).symm
    ·have c69 := t69 x 1 f (by decide) (by omega)
     obtain ⟨b, hbe⟩ : ∃ b, before x 1 f = b := ⟨_, rfl⟩
     rw [hbe] at c69
     have hfin := now_two hw hN hbe
     rw [hN]
     have hf0 : decide (((f : Nat) : Int) < 0) = false := decide_eq_false (by omega)
     cases b
     all_goals (repeat' first|exact ap|refine aN ?_ ?_)
     all_goals first | exact om | skip
     ·refine drawP E_ok [6, 13] pl20_17 (by kernel_rfl) ?_
      (repeat' first|exact ap|refine aN ?_ ?_)
      all_goals first | exact om | skip
      all_goals first | exact u0 (Nat.le_of_ble_eq_true rfl) | exact Nat.le_of_ble_eq_true rfl | skip
      refine c68.use [] ?_ trivial rfl
      all_goals (repeat' first|exact ap|refine aN ?_ ?_)
      all_goals first | exact gd | skip
      all_goals intro h1
      all_goals first | exact absurd h1 (by decide) | (cases h1; done) | skip
      (repeat' first|exact ap|refine aN ?_ ?_)
      all_goals first | exact om | skip
      all_goals first | exact u0 (Nat.le_of_ble_eq_true rfl) | exact Nat.le_of_ble_eq_true rfl | skip
      all_goals intro h2
      all_goals first | (exfalso; have h3 := of_decide_eq_true (Bool.and_eq_true _ _ ▸ h2); omega) | skip
      refine c69.use [] ?_ trivial rfl
      (repeat' first|exact ap|refine aN ?_ ?_)
      all_goals first | exact om | skip
      all_goals first | exact fun _ => h2 | exact fun _ _ => h2 | skip
      all_goals (repeat' first|exact ap|refine aN ?_ ?_)
      all_goals first | exact gd | skip
      all_goals intro h4
      all_goals first | (exfalso; revert h4; simp [gB, wB, hf0]; done) | skip
      (repeat' first|exact ap|refine aN ?_ ?_)
      all_goals first | exact om | skip
      refine ⟨2, by omega, by omega, ?_⟩
      rw [hfin]
      refine ent_tau [0, 1, 2, 3, 4, 5, 6, 7, 8, 9, 10, 11, 12, 13, 14] ⟨?_, by (repeat' first|exact tm|refine aN ?_ ?_), rfl⟩
      (repeat' first|exact fp|refine aN ?_ ?_)
      all_goals exact (kv_yes1 hw).symm
     ·refine drawP E_ok [6, 13] pl20_17 (by kernel_rfl) ?_
      (repeat' first|exact ap|refine aN ?_ ?_)
      all_goals first | exact om | skip
      all_goals first | exact u0 (Nat.le_of_ble_eq_true rfl) | exact Nat.le_of_ble_eq_true rfl | skip
      refine c68.use [] ?_ trivial rfl
      all_goals (repeat' first|exact ap|refine aN ?_ ?_)
      all_goals first | exact gd | skip
      all_goals intro h1
      all_goals first | exact absurd h1 (by decide) | (cases h1; done) | skip
      (repeat' first|exact ap|refine aN ?_ ?_)
      all_goals first | exact om | skip
      all_goals first | exact u0 (Nat.le_of_ble_eq_true rfl) | exact Nat.le_of_ble_eq_true rfl | skip
      all_goals intro h2
      all_goals first | (exfalso; have h3 := of_decide_eq_true (Bool.and_eq_true _ _ ▸ h2); omega) | skip
      refine c69.use [] ?_ trivial rfl
      (repeat' first|exact ap|refine aN ?_ ?_)
      all_goals first | exact om | skip
      all_goals first | exact fun _ => h2 | exact fun _ _ => h2 | skip
      all_goals (repeat' first|exact ap|refine aN ?_ ?_)
      all_goals first | exact gd | skip
      all_goals intro h4
      all_goals first | (exfalso; revert h4; simp [gB, wB, hf0]; done) | skip
      (repeat' first|exact ap|refine aN ?_ ?_)
      all_goals first | exact om | skip
      refine ⟨2, by omega, by omega, ?_⟩
      rw [hfin]
      refine ent_tau [0, 1, 2, 3, 4, 5, 6, 7, 8, 9, 10, 11, 12, 13, 14] ⟨?_, by (repeat' first|exact tm|refine aN ?_ ?_), rfl⟩
      (repeat' first|exact fp|refine aN ?_ ?_)
      all_goals exact (kv_yes1 hw).symm
  ·have c68 := t68 (x 2).1 (x 2).2 m
   have hrk := now_rng x m 2
   cases hw : inI m (x 2).1 (x 2).2 with
   | false =>
    rw [hw] at c68
    (repeat' first|exact ap|refine aN ?_ ?_)
    all_goals first | exact om | skip
    refine drawP E_ok [6, 13] pl20_17 (by kernel_rfl) ?_
    (repeat' first|exact ap|refine aN ?_ ?_)
    all_goals first | exact om | skip
    all_goals first | exact u0 (Nat.le_of_ble_eq_true rfl) | exact Nat.le_of_ble_eq_true rfl | skip
    refine c68.use [] ?_ trivial rfl
    all_goals (repeat' first|exact ap|refine aN ?_ ?_)
    all_goals first | exact gd | skip
    all_goals intro h1
    all_goals first | exact absurd h1 (by decide) | (cases h1; done) | skip
    (repeat' first|exact ap|refine aN ?_ ?_)
    all_goals first | exact om | skip
    refine ⟨3, by omega, by omega, ?_⟩
    rw [now_no hw, kv_no hw]
    exact ent_tau [0, 1, 2, 3, 4, 5, 6, 7, 8, 9, 10, 11, 12, 13, 14] ⟨by (repeat' first|exact fp|refine aN ?_ ?_), by (repeat' first|exact tm|refine aN ?_ ?_), rfl⟩
   | true =>
    rw [hw] at c68
    have hN : now x m 2 = -1 ∨ ∃ f : Nat, now x m 2 = (f : Nat) ∧ f < 2 := by
     by_cases c : now x m 2 < 0
     ·exact .inl (by omega)
     ·exact .inr ⟨(now x m 2).toNat, by omega, by omega⟩
    rcases hN with hN | ⟨f, hN, hf⟩
    ·rw [hN]
     (repeat' first|exact ap|refine aN ?_ ?_)
     all_goals first | exact om | skip
     refine drawP E_ok [6, 13] pl20_17 (by kernel_rfl) ?_
     (repeat' first|exact ap|refine aN ?_ ?_)
     all_goals first | exact om | skip
     all_goals first | exact u0 (Nat.le_of_ble_eq_true rfl) | exact Nat.le_of_ble_eq_true rfl | skip
     refine c68.use [] ?_ trivial rfl
     all_goals (repeat' first|exact ap|refine aN ?_ ?_)
     all_goals first | exact gd | skip
     all_goals intro h1
     all_goals first | exact absurd h1 (by decide) | (cases h1; done) | skip
     (repeat' first|exact ap|refine aN ?_ ?_)
     all_goals first | exact om | skip
     all_goals first | exact u0 (Nat.le_of_ble_eq_true rfl) | exact Nat.le_of_ble_eq_true rfl | skip
     all_goals (repeat' first|exact ap|refine aN ?_ ?_)
     all_goals first | exact gd | skip
     all_goals intro h2
     all_goals first | exact absurd h2 (by decide) | (cases h2; done) | skip
     (repeat' first|exact ap|refine aN ?_ ?_)
     all_goals first | exact om | skip
     all_goals (repeat' first|exact ap|refine aN ?_ ?_)
     all_goals first | exact gd | skip
     all_goals intro h3
     all_goals first | exact absurd h3 (by decide) | (cases h3; done) | skip
     (repeat' first|exact ap|refine aN ?_ ?_)
     all_goals first | exact om | skip
     refine ⟨3, by omega, by omega, ?_⟩
     rw [now_one hw hN]
     refine ent_tau [0, 1, 2, 3, 4, 5, 6, 7, 8, 9, 10, 11, 12, 13, 14] ⟨?_, by (repeat' first|exact tm|refine aN ?_ ?_), rfl⟩
     (repeat' first|exact fp|refine aN ?_ ?_)
     all_goals exact (kv_yes2 hw).symm
    ·have c69 := t69 x 2 f (by decide) (by omega)
     obtain ⟨b, hbe⟩ : ∃ b, before x 2 f = b := ⟨_, rfl⟩
     rw [hbe] at c69
     have hfin := now_two hw hN hbe
     rw [hN]
     have hf0 : decide (((f : Nat) : Int) < 0) = false := decide_eq_false (by omega)
     cases b
     all_goals (repeat' first|exact ap|refine aN ?_ ?_)
     all_goals first | exact om | skip
     ·refine drawP E_ok [6, 13] pl20_17 (by kernel_rfl) ?_
      (repeat' first|exact ap|refine aN ?_ ?_)
      all_goals first | exact om | skip
      all_goals first | exact u0 (Nat.le_of_ble_eq_true rfl) | exact Nat.le_of_ble_eq_true rfl | skip
      refine c68.use [] ?_ trivial rfl
      all_goals (repeat' first|exact ap|refine aN ?_ ?_)
      all_goals first | exact gd | skip
      all_goals intro h1
      all_goals first | exact absurd h1 (by decide) | (cases h1; done) | skip
      (repeat' first|exact ap|refine aN ?_ ?_)
      all_goals first | exact om | skip
      all_goals first | exact u0 (Nat.le_of_ble_eq_true rfl) | exact Nat.le_of_ble_eq_true rfl | skip
      all_goals intro h2
      all_goals first | (exfalso; have h3 := of_decide_eq_true (Bool.and_eq_true _ _ ▸ h2); omega) | skip
      refine c69.use [] ?_ trivial rfl
      (repeat' first|exact ap|refine aN ?_ ?_)
      all_goals first | exact om | skip
      all_goals first | exact fun _ => h2 | exact fun _ _ => h2 | skip
      all_goals (repeat' first|exact ap|refine aN ?_ ?_)
      all_goals first | exact gd | skip
      all_goals intro h4
      all_goals first | (exfalso; revert h4; simp [gB, wB, hf0]; done) | skip
      (repeat' first|exact ap|refine aN ?_ ?_)
      all_goals first | exact om | skip
      refine ⟨3, by omega, by omega, ?_⟩
      rw [hfin]
      refine ent_tau [0, 1, 2, 3, 4, 5, 6, 7, 8, 9, 10, 11, 12, 13, 14] ⟨?_, by (repeat' first|exact tm|refine aN ?_ ?_), rfl⟩
      (repeat' first|exact fp|refine aN ?_ ?_)
      all_goals exact (kv_yes2 hw).symm
     ·refine drawP E_ok [6, 13] pl20_17 (by kernel_rfl) ?_
      (repeat' first|exact ap|refine aN ?_ ?_)
      all_goals first | exact om | skip
      all_goals first | exact u0 (Nat.le_of_ble_eq_true rfl) | exact Nat.le_of_ble_eq_true rfl | skip
      refine c68.use [] ?_ trivial rfl
      all_goals (repeat' first|exact ap|refine aN ?_ ?_)
      all_goals first | exact gd | skip
      all_goals intro h1
      all_goals first | exact absurd h1 (by decide) | (cases h1; done) | skip
      (repeat' first|exact ap|refine aN ?_ ?_)
      all_goals first | exact om | skip
      all_goals first | exact u0 (Nat.le_of_ble_eq_true rfl) | exact Nat.le_of_ble_eq_true rfl | skip
      all_goals intro h2
      all_goals first | (exfalso; have h3 := of_decide_eq_true (Bool.and_eq_true _ _ ▸ h2); omega) | skip
      refine c69.use [] ?_ trivial rfl
      (repeat' first|exact ap|refine aN ?_ ?_)
      all_goals first | exact om | skip
      all_goals first | exact fun _ => h2 | exact fun _ _ => h2 | skip
      all_goals (repeat' first|exact ap|refine aN ?_ ?_)
      all_goals first | exact gd | skip
      all_goals intro h4
      all_goals first | (exfalso; revert h4; simp [gB, wB, hf0]; done) | skip
      (repeat' first|exact ap|refine aN ?_ ?_)
      all_goals first | exact om | skip
      refine ⟨3, by omega, by omega, ?_⟩
      rw [hfin]
      refine ent_tau [0, 1, 2, 3, 4, 5, 6, 7, 8, 9, 10, 11, 12, 13, 14] ⟨?_, by (repeat' first|exact tm|refine aN ?_ ?_), rfl⟩
      (repeat' first|exact fp|refine aN ?_ ?_)
      all_goals exact (kv_yes2 hw).symm
  ·have c68 := t68 (x 3).1 (x 3).2 m
   have hrk := now_rng x m 3
   cases hw : inI m (x 3).1 (x 3).2 with
   | false =>
    rw [hw] at c68
    (repeat' first|exact ap|refine aN ?_ ?_)
    all_goals first | exact om | skip
    refine drawP E_ok [6, 13] pl20_17 (by kernel_rfl) ?_
    (repeat' first|exact ap|refine aN ?_ ?_)
    all_goals first | exact om | skip
    all_goals first | exact u0 (Nat.le_of_ble_eq_true rfl) | exact Nat.le_of_ble_eq_true rfl | skip
    refine c68.use [] ?_ trivial rfl
    all_goals (repeat' first|exact ap|refine aN ?_ ?_)
    all_goals first | exact gd | skip
    all_goals intro h1
    all_goals first | exact absurd h1 (by decide) | (cases h1; done) | skip
    (repeat' first|exact ap|refine aN ?_ ?_)
    all_goals first | exact om | skip
    refine ⟨4, by omega, by omega, ?_⟩
    rw [now_no hw, kv_no hw]
    exact ent_tau [0, 1, 2, 3, 4, 5, 6, 7, 8, 9, 10, 11, 12, 13, 14] ⟨by (repeat' first|exact fp|refine aN ?_ ?_), by (repeat' first|exact tm|refine aN ?_ ?_), rfl⟩
   | true =>
    rw [hw] at c68
    have hN : now x m 3 = -1 ∨ ∃ f : Nat, now x m 3 = (f : Nat) ∧ f < 3 := by
     by_cases c : now x m 3 < 0
     ·exact .inl (by omega)
     ·exact .inr ⟨(now x m 3).toNat, by omega, by omega⟩
    rcases hN with hN | ⟨f, hN, hf⟩
    ·rw [hN]
     (repeat' first|exact ap|refine aN ?_ ?_)
     all_goals first | exact om | skip
     refine drawP E_ok [6, 13] pl20_17 (by kernel_rfl) ?_
     (repeat' first|exact ap|refine aN ?_ ?_)
     all_goals first | exact om | skip
     all_goals first | exact u0 (Nat.le_of_ble_eq_true rfl) | exact Nat.le_of_ble_eq_true rfl | skip
     refine c68.use [] ?_ trivial rfl
     all_goals (repeat' first|exact ap|refine aN ?_ ?_)
     all_goals first | exact gd | skip
     all_goals intro h1
     all_goals first | exact absurd h1 (by decide) | (cases h1; done) | skip
     (repeat' first|exact ap|refine aN ?_ ?_)
     all_goals first | exact om | skip
     all_goals first | exact u0 (Nat.le_of_ble_eq_true rfl) | exact Nat.le_of_ble_eq_true rfl | skip
     all_goals (repeat' first|exact ap|refine aN ?_ ?_)
     all_goals first | exact gd | skip
     all_goals intro h2
     all_goals first | exact absurd h2 (by decide) | (cases h2; done) | skip
     (repeat' first|exact ap|refine aN ?_ ?_)
     all_goals first | exact om | skip
     all_goals (repeat' first|exact ap|refine aN ?_ ?_)
     all_goals first | exact gd | skip
     all_goals intro h3
     all_goals first | exact absurd h3 (by decide) | (cases h3; done) | skip
     (repeat' first|exact ap|refine aN ?_ ?_)
     all_goals first | exact om | skip
     refine ⟨4, by omega, by omega, ?_⟩
     rw [now_one hw hN]
     refine ent_tau [0, 1, 2, 3, 4, 5, 6, 7, 8, 9, 10, 11, 12, 13, 14] ⟨?_, by (repeat' first|exact tm|refine aN ?_ ?_), rfl⟩
     (repeat' first|exact fp|refine aN ?_ ?_)
     all_goals exact (kv_yes3 hw).symm
    ·have c69 := t69 x 3 f (by decide) (by omega)
     obtain ⟨b, hbe⟩ : ∃ b, before x 3 f = b := ⟨_, rfl⟩
     rw [hbe] at c69
     have hfin := now_two hw hN hbe
     rw [hN]
     have hf0 : decide (((f : Nat) : Int) < 0) = false := decide_eq_false (by omega)
     cases b
     all_goals (repeat' first|exact ap|refine aN ?_ ?_)
     all_goals first | exact om | skip
     ·refine drawP E_ok [6, 13] pl20_17 (by kernel_rfl) ?_
      (repeat' first|exact ap|refine aN ?_ ?_)
      all_goals first | exact om | skip
      all_goals first | exact u0 (Nat.le_of_ble_eq_true rfl) | exact Nat.le_of_ble_eq_true rfl | skip
      refine c68.use [] ?_ trivial rfl
      all_goals (repeat' first|exact ap|refine aN ?_ ?_)
      all_goals first | exact gd | skip
      all_goals intro h1
      all_goals first | exact absurd h1 (by decide) | (cases h1; done) | skip
      (repeat' first|exact ap|refine aN ?_ ?_)
      all_goals first | exact om | skip
      all_goals first | exact u0 (Nat.le_of_ble_eq_true rfl) | exact Nat.le_of_ble_eq_true rfl | skip
      all_goals intro h2
      all_goals first | (exfalso; have h3 := of_decide_eq_true (Bool.and_eq_true _ _ ▸ h2); omega) | skip
      refine c69.use [] ?_ trivial rfl
      (repeat' first|exact ap|refine aN ?_ ?_)
      all_goals first | exact om | skip
      all_goals first | exact fun _ => h2 | exact fun _ _ => h2 | skip
      all_goals (repeat' first|exact ap|refine aN ?_ ?_)
      all_goals first | exact gd | skip
      all_goals intro h4
      all_goals first | (exfalso; revert h4; simp [gB, wB, hf0]; done) | skip
      (repeat' first|exact ap|refine aN ?_ ?_)
      all_goals first | exact om | skip
      refine ⟨4, by omega, by omega, ?_⟩
      rw [hfin]
      refine ent_tau [0, 1, 2, 3, 4, 5, 6, 7, 8, 9, 10, 11, 12, 13, 14] ⟨?_, by (repeat' first|exact tm|refine aN ?_ ?_), rfl⟩
      (repeat' first|exact fp|refine aN ?_ ?_)
      all_goals exact (kv_yes3 hw).symm
     ·refine drawP E_ok [6, 13] pl20_17 (by kernel_rfl) ?_
      (repeat' first|exact ap|refine aN ?_ ?_)
      all_goals first | exact om | skip
      all_goals first | exact u0 (Nat.le_of_ble_eq_true rfl) | exact Nat.le_of_ble_eq_true rfl | skip
      refine c68.use [] ?_ trivial rfl
      all_goals (repeat' first|exact ap|refine aN ?_ ?_)
      all_goals first | exact gd | skip
      all_goals intro h1
      all_goals first | exact absurd h1 (by decide) | (cases h1; done) | skip
      (repeat' first|exact ap|refine aN ?_ ?_)
      all_goals first | exact om | skip
      all_goals first | exact u0 (Nat.le_of_ble_eq_true rfl) | exact Nat.le_of_ble_eq_true rfl | skip
      all_goals intro h2
      all_goals first | (exfalso; have h3 := of_decide_eq_true (Bool.and_eq_true _ _ ▸ h2); omega) | skip
      refine c69.use [] ?_ trivial rfl
      (repeat' first|exact ap|refine aN ?_ ?_)
      all_goals first | exact om | skip
      all_goals first | exact fun _ => h2 | exact fun _ _ => h2 | skip
      all_goals (repeat' first|exact ap|refine aN ?_ ?_)
      all_goals first | exact gd | skip
      all_goals intro h4
      all_goals first | (exfalso; revert h4; simp [gB, wB, hf0]; done) | skip
      (repeat' first|exact ap|refine aN ?_ ?_)
      all_goals first | exact om | skip
      refine ⟨4, by omega, by omega, ?_⟩
      rw [hfin]
      refine ent_tau [0, 1, 2, 3, 4, 5, 6, 7, 8, 9, 10, 11, 12, 13, 14] ⟨?_, by (repeat' first|exact tm|refine aN ?_ ?_), rfl⟩
      (repeat' first|exact fp|refine aN ?_ ?_)
      all_goals exact (kv_yes3 hw).symm
  ·have c68 := t68 (x 4).1 (x 4).2 m
   have hrk := now_rng x m 4
   cases hw : inI m (x 4).1 (x 4).2 with
   | false =>
    rw [hw] at c68
    (repeat' first|exact ap|refine aN ?_ ?_)
    all_goals first | exact om | skip
    refine drawP E_ok [6, 13] pl20_17 (by kernel_rfl) ?_
    (repeat' first|exact ap|refine aN ?_ ?_)
    all_goals first | exact om | skip
    all_goals first | exact u0 (Nat.le_of_ble_eq_true rfl) | exact Nat.le_of_ble_eq_true rfl | skip
    refine c68.use [] ?_ trivial rfl
    all_goals (repeat' first|exact ap|refine aN ?_ ?_)
    all_goals first | exact gd | skip
    all_goals intro h1
    all_goals first | exact absurd h1 (by decide) | (cases h1; done) | skip
    (repeat' first|exact ap|refine aN ?_ ?_)
    all_goals first | exact om | skip
    refine ⟨5, by omega, by omega, ?_⟩
    rw [now_no hw, kv_no hw]
    exact ent_tau [0, 1, 2, 3, 4, 5, 6, 7, 8, 9, 10, 11, 12, 13, 14] ⟨by (repeat' first|exact fp|refine aN ?_ ?_), by (repeat' first|exact tm|refine aN ?_ ?_), rfl⟩
   | true =>
    rw [hw] at c68
    have hN : now x m 4 = -1 ∨ ∃ f : Nat, now x m 4 = (f : Nat) ∧ f < 4 := by
     by_cases c : now x m 4 < 0
     ·exact .inl (by omega)
     ·exact .inr ⟨(now x m 4).toNat, by omega, by omega⟩
    rcases hN with hN | ⟨f, hN, hf⟩
    ·rw [hN]
     (repeat' first|exact ap|refine aN ?_ ?_)
     all_goals first | exact om | skip
     refine drawP E_ok [6, 13] pl20_17 (by kernel_rfl) ?_
     (repeat' first|exact ap|refine aN ?_ ?_)
     all_goals first | exact om | skip
     all_goals first | exact u0 (Nat.le_of_ble_eq_true rfl) | exact Nat.le_of_ble_eq_true rfl | skip
     refine c68.use [] ?_ trivial rfl
     all_goals (repeat' first|exact ap|refine aN ?_ ?_)
     all_goals first | exact gd | skip
     all_goals intro h1
     all_goals first | exact absurd h1 (by decide) | (cases h1; done) | skip
     (repeat' first|exact ap|refine aN ?_ ?_)
     all_goals first | exact om | skip
     all_goals first | exact u0 (Nat.le_of_ble_eq_true rfl) | exact Nat.le_of_ble_eq_true rfl | skip
     all_goals (repeat' first|exact ap|refine aN ?_ ?_)
     all_goals first | exact gd | skip
     all_goals intro h2
     all_goals first | exact absurd h2 (by decide) | (cases h2; done) | skip
     (repeat' first|exact ap|refine aN ?_ ?_)
     all_goals first | exact om | skip
     all_goals (repeat' first|exact ap|refine aN ?_ ?_)
     all_goals first | exact gd | skip
     all_goals intro h3
     all_goals first | exact absurd h3 (by decide) | (cases h3; done) | skip
     (repeat' first|exact ap|refine aN ?_ ?_)
     all_goals first | exact om | skip
     refine ⟨5, by omega, by omega, ?_⟩
     rw [now_one hw hN]
     refine ent_tau [0, 1, 2, 3, 4, 5, 6, 7, 8, 9, 10, 11, 12, 13, 14] ⟨?_, by (repeat' first|exact tm|refine aN ?_ ?_), rfl⟩
     (repeat' first|exact fp|refine aN ?_ ?_)
     all_goals exact (kv_yes4 hw).symm
    ·have c69 := t69 x 4 f (by decide) (by omega)
     obtain ⟨b, hbe⟩ : ∃ b, before x 4 f = b := ⟨_, rfl⟩
     rw [hbe] at c69
     have hfin := now_two hw hN hbe
     rw [hN]
     have hf0 : decide (((f : Nat) : Int) < 0) = false := decide_eq_false (by omega)
     cases b
     all_goals (repeat' first|exact ap|refine aN ?_ ?_)
     all_goals first | exact om | skip
     ·refine drawP E_ok [6, 13] pl20_17 (by kernel_rfl) ?_
      (repeat' first|exact ap|refine aN ?_ ?_)
      all_goals first | exact om | skip
      all_goals first | exact u0 (Nat.le_of_ble_eq_true rfl) | exact Nat.le_of_ble_eq_true rfl | skip
      refine c68.use [] ?_ trivial rfl
      all_goals (repeat' first|exact ap|refine aN ?_ ?_)
      all_goals first | exact gd | skip
      all_goals intro h1
      all_goals first | exact absurd h1 (by decide) | (cases h1; done) | skip
      (repeat' first|exact ap|refine aN ?_ ?_)
      all_goals first | exact om | skip
      all_goals first | exact u0 (Nat.le_of_ble_eq_true rfl) | exact Nat.le_of_ble_eq_true rfl | skip
      all_goals intro h2
      all_goals first | (exfalso; have h3 := of_decide_eq_true (Bool.and_eq_true _ _ ▸ h2); omega) | skip
      refine c69.use [] ?_ trivial rfl
      (repeat' first|exact ap|refine aN ?_ ?_)
      all_goals first | exact om | skip
      all_goals first | exact fun _ => h2 | exact fun _ _ => h2 | skip
      all_goals (repeat' first|exact ap|refine aN ?_ ?_)
      all_goals first | exact gd | skip
      all_goals intro h4
      all_goals first | (exfalso; revert h4; simp [gB, wB, hf0]; done) | skip
      (repeat' first|exact ap|refine aN ?_ ?_)
      all_goals first | exact om | skip
      refine ⟨5, by omega, by omega, ?_⟩
      rw [hfin]
      refine ent_tau [0, 1, 2, 3, 4, 5, 6, 7, 8, 9, 10, 11, 12, 13, 14] ⟨?_, by (repeat' first|exact tm|refine aN ?_ ?_), rfl⟩
      (repeat' first|exact fp|refine aN ?_ ?_)
      all_goals exact (kv_yes4 hw).symm
     ·refine drawP E_ok [6, 13] pl20_17 (by kernel_rfl) ?_
      (repeat' first|exact ap|refine aN ?_ ?_)
      all_goals first | exact om | skip
      all_goals first | exact u0 (Nat.le_of_ble_eq_true rfl) | exact Nat.le_of_ble_eq_true rfl | skip
      refine c68.use [] ?_ trivial rfl
      all_goals (repeat' first|exact ap|refine aN ?_ ?_)
      all_goals first | exact gd | skip
      all_goals intro h1
      all_goals first | exact absurd h1 (by decide) | (cases h1; done) | skip
      (repeat' first|exact ap|refine aN ?_ ?_)
      all_goals first | exact om | skip
      all_goals first | exact u0 (Nat.le_of_ble_eq_true rfl) | exact Nat.le_of_ble_eq_true rfl | skip
      all_goals intro h2
      all_goals first | (exfalso; have h3 := of_decide_eq_true (Bool.and_eq_true _ _ ▸ h2); omega) | skip
      refine c69.use [] ?_ trivial rfl
      (repeat' first|exact ap|refine aN ?_ ?_)
      all_goals first | exact om | skip
      all_goals first | exact fun _ => h2 | exact fun _ _ => h2 | skip
      all_goals (repeat' first|exact ap|refine aN ?_ ?_)
      all_goals first | exact gd | skip
      all_goals intro h4
      all_goals first | (exfalso; revert h4; simp [gB, wB, hf0]; done) | skip
      (repeat' first|exact ap|refine aN ?_ ?_)
      all_goals first | exact om | skip
      refine ⟨5, by omega, by omega, ?_⟩
      rw [hfin]
      refine ent_tau [0, 1, 2, 3, 4, 5, 6, 7, 8, 9, 10, 11, 12, 13, 14] ⟨?_, by (repeat' first|exact tm|refine aN ?_ ?_), rfl⟩
      (repeat' first|exact fp|refine aN ?_ ?_)
      all_goals exact (kv_yes4 hw).symm
 ·have e : i = t.n := by
   have := of_decide_eq_false hc
   omega
  subst e
  have hr := now_rng x m t.n
  (repeat' first|exact ap|refine aN ?_ ?_)
  all_goals first | exact om | skip
  refine fun s hs => ?_
  have hS : seenB g.1 (keyI x m t.n) = !decide (s = 0) := by
   unfold seenB
   have hs2 : [s] = gval 1 g.1 (keyI x m t.n) := hs
   rw [← hs2]
   rfl
  (repeat' first|exact ap|refine aN ?_ ?_)
  ·intro hy
   have hst : stW m t.n g x = g := by
    unfold stW
    rw [hS, show (!decide (s = 0)) = true from hy]
   (repeat' first|exact ap|refine aN ?_ ?_)
   refine ⟨_, _, ⟨rfl, rfl⟩, ?_⟩
   rw [hst]
   refine Ent.trans ?_ (hpk g _)
   exact ent_tau [0, 1, 2, 3, 4, 5, 6, 7, 8, 9, 10, 11, 12] ⟨by (repeat' first|exact fp|refine aN ?_ ?_), by (repeat' first|exact tm|refine aN ?_ ?_), rfl⟩
  ·intro hy
   have hst : stW m t.n g x = (gset g.1 (keyI x m t.n) [1], match decide (now x m t.n < 0) with
     | true => (g.2.1, true)
     | false => (g.2.1 % 32 ||| 2 ^ (now x m t.n).toNat, g.2.2)) := by
    unfold stW
    rw [hS, show (!decide (s = 0)) = false from hy]
    cases decide (now x m t.n < 0) <;> rfl
   rw [hst]
   (repeat' first|exact ap|refine aN ?_ ?_)
   all_goals first | exact om | skip
   ·intro h0
    have h0' : decide (now x m t.n < 0) = true := h0
    rw [h0']
    (repeat' first|exact ap|refine aN ?_ ?_)
    all_goals first | exact om | skip
    refine ⟨_, _, ⟨rfl, rfl⟩, ?_⟩
    refine Ent.trans ?_ (hpk _ _)
    exact ent_tau [0, 1, 2, 3, 4, 5, 6, 7, 8, 9, 10, 11, 12] ⟨by (repeat' first|exact fp|refine aN ?_ ?_), by (repeat' first|exact tm|refine aN ?_ ?_), rfl⟩
   ·intro h0
    have h0' : decide (now x m t.n < 0) = false := h0
    have h00 := of_decide_eq_false h0'
    obtain ⟨f, hf⟩ : ∃ f : Nat, now x m t.n = (f : Nat) := ⟨(now x m t.n).toNat, by omega⟩
    rw [h0', hf]
    have pk := pow_int f
    have p2 : 2 ^ f < 2 ^ 5 := Nat.pow_lt_pow_right (by omega) (by omega)
    have pa : -9223372036854775808 ≤ (1 : Int) * 2 ^ ((f : Nat) : Int).toNat := by rw [pk]; exact Int.le_trans (by decide) (Int.natCast_nonneg _)
    have pb : (1 : Int) * 2 ^ ((f : Nat) : Int).toNat ≤ 9223372036854775807 := by rw [pk]; omega
    have h64 : ((f : Nat) : Int) < ((IntKind.bits .i64 : Nat) : Int) := lt64 (by omega)
    have hfu := unF (A := ((g.2.1 % 32 : Nat) : Int)) rfl pk
    have m32 : g.2.1 % 32 < 32 := Nat.mod_lt _ (by decide)
    have hor : (g.2.1 % 32 ||| 2 ^ f) % 32 = g.2.1 % 32 ||| 2 ^ f := Nat.mod_eq_of_lt (Nat.or_lt_two_pow (n := 5) m32 p2)
    (repeat' first|exact ap|refine aN ?_ ?_)
    all_goals first | exact om | skip
    refine drawP E_ok [] pl20_26s (by kernel_rfl) ?_
    (repeat' first|exact ap|refine aN ?_ ?_)
    all_goals first | exact om | skip
    all_goals first | exact pa | exact pb | exact u0 h64 | skip
    refine (t62 (g.2.1 % 32) (2 ^ f) (Nat.lt_trans m32 (by decide)) (Nat.lt_trans p2 (by decide))).use [15] ?_ (by (first | exact ⟨⟨rfl, rfl, hfu⟩, trivial⟩ | exact ⟨⟨rfl, rfl, fun k hk => hfu k hk⟩, trivial⟩)) rfl
    (repeat' first|exact ap|refine aN ?_ ?_)
    all_goals first | exact om | skip
    refine ⟨_, _, ⟨rfl, rfl⟩, ?_⟩
    refine Ent.trans ?_ (hpk _ _)
    refine ent_tau [0, 1, 2, 3, 4, 5, 6, 7, 8, 9, 10, 11, 12] ⟨?_, by (repeat' first|exact tm|refine aN ?_ ?_), rfl⟩
    (repeat' first|exact fp|refine aN ?_ ?_)
    all_goals first | exact congrArg (fun z : Nat => [SV.int .i64 z]) hor.symm | exact congrArg (fun z : Nat => [SV.int .i64 z]) hor
end Go.Proofs.Ytioajogaghgipaa
