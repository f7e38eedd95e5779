/-
  Parts: B16m, B18, B20.
-/
import Derived.Test.YtioajogaghgipaaP20
set_option linter.unusedVariables false
/-
 The spans of what is measured, of all truths (m).
-/
namespace Go.Proofs.Ytioajogaghgipaa
open Go Go.Sy Tic
set_option linter.unusedSimpArgs false
set_option maxRecDepth 100000
set_option maxHeartbeats 4000000
attribute [local irreducible] CallP CodeP Ent YieldP
set_option maxHeartbeats 16000000

noncomputable def P50m (t : TK) (i : Nat) (a : Bool) (g : (Ms × Ms)) (st : LoopState) (p : Option Code) : List (Nat × SObj) := [(4, L50 st p), (5, .cells [.slice 7 4 0 2 2]), (6, .cells [.bool a]), (7, .arr 4 2 2 (mrow2 8 g.1 g.2)), (8, .cells [.int .i64 i])]
noncomputable def C50m (t : TK) (i : Nat) (g : (Ms × Ms)) (b : Bool) : OB := packR (P50m t i g.1.1 g (bif b then .ready else .done) (bif b then none else some .ret))
noncomputable def HU50m (t : TK) (i : Nat) (bo : Bool) (co : Nat) (a : Bool) (g : (Ms × Ms)) (st : LoopState) (p : Option Code) : SHeap :=
 [some (.roa 5 t.n (TF t)), some (.roc [.int .i64 t.huts, .osl t.b 0 5 t.n t.cap, .osl bo 2 1 t.n co]), some (.roa 1 t.n (rowO (ord t))), some (.roc [.ptr 1 0]), some (L50 st p), some (.cells [.slice 7 4 0 2 2]), some (.cells [.bool a]), some (.arr 4 2 2 (mrow2 8 g.1 g.2)), some (.cells [.int .i64 i]), some .dead, some .dead, some .dead, some .dead]
theorem up50m (t : TK) (i : Nat) (bo : Bool) (co : Nat) (a : Bool) (g : (Ms × Ms)) (x : Tru) : Ent 13 ⟨argT [.agg (trV x)], HI t bo co (packR (P50m t i a g .ready none)), []⟩ ⟨argT [.agg (trV x)], HU50m t i bo co a g .ready none, []⟩ :=
 entUnpack (n := 13) (T := argT [.agg (trV x)]) (H := HI t bo co (packR (P50m t i a g .ready none))) (D := []) NS (P50m t i a g .ready none) 4 rfl rfl rfl ⟨trivial, trivial, trivial, trivial, trivial, trivial⟩
theorem pk50m (t : TK) (i : Nat) (bo : Bool) (co : Nat) (a : Bool) (g : (Ms × Ms)) (T : Tm) : Ent 13 ⟨T, HU50m t i bo co a g .ready none, []⟩ ⟨T, HI t bo co (packR (P50m t i a g .ready none)), []⟩ :=
 entPack (n := 13) (T := T) (H := HU50m t i bo co a g .ready none) (D := []) NS (P50m t i a g .ready none) 4 (by (repeat' first|exact fp|refine aN ?_ ?_)) rfl rfl
theorem y50m (t : TK) (hv : t.Valid) (i : Nat) (hi : i < t.n) (bo : Bool) (co : Nat) (g : (Ms × Ms)) (x : Tru) (hx : x ∈ t.trs) :
  YieldP Try.prog 4 [.agg (trV x)] (HI t bo co (C50m t i g true)) (Ret (.bool (stepM (fun (g : (Ms × Ms)) x => (seeS g.1 (x i).1, seeS g.2 (x i).2)) g x).2) (HI t bo co (C50m t i (stepM (fun (g : (Ms × Ms)) x => (seeS g.1 (x i).1, seeS g.2 (x i).2)) g x).1 (stepM (fun (g : (Ms × Ms)) x => (seeS g.1 (x i).1, seeS g.2 (x i).2)) g x).2))) := by
 have hi5 : i < 5 := by
  have := hv.2.1
  omega
 obtain ⟨g, h⟩ := g
 obtain ⟨N, hN⟩ : ∃ N, (x i).1 = N := ⟨_, rfl⟩
 obtain ⟨M, hM⟩ : ∃ N, (x i).2 = N := ⟨_, rfl⟩
 have c := t101p x i hi5 g h
 have d := t101q x i hi5 (seeS g N) h
 rw [hN] at c
 rw [hM] at d
 have hpk := pk50m t i bo co true (seeS g N, seeS h M)
 have hC : C50m t i (seeS g N, seeS h M) true = packR (P50m t i true (seeS g N, seeS h M) .ready none) := by
  obtain ⟨s, lo, hi⟩ := g
  cases s <;> rfl
 refine YieldP.pre (up50m t i bo co g.1 (g, h) x) (show (4 : Nat) < 13 by decide) ?_
 simp only [stepM]
 rw [hN, hM, hC]
 refine YieldP.ent (roundP E_ok rfl rfl fun l => ?_)
 (repeat' first|exact ap|refine aN ?_ ?_)
 refine loopP E_ok [5, 8, 9, 34] (fun j : Nat => [(35, .int .i64 j)]) (fun j _ => match j with
   | 0 => HU50m t i bo co true (g, h) .busy none ++ [some (.cells (trV x))]
   | 1 => HU50m t i bo co true (seeS g N, h) .busy none ++ [some (.cells (trV x))]
   | _ => HU50m t i bo co true (seeS g N, seeS h M) .busy none ++ [some (.cells (trV x))]) (fun j => j ≤ 2) (fun j => 2 - j) 0 (Nat.zero_le _) ?_ ?_
 ·exact ent_tau [0, 1, 2, 3, 4, 5, 6, 7, 8, 9, 10, 11, 12, 13] ⟨by (repeat' first|exact fp|refine aN ?_ ?_), by (repeat' first|exact tm|refine aN ?_ ?_), rfl⟩
 rintro j hj
 have hj2 : j = 0 ∨ j = 1 ∨ j = 2 := by omega
 rcases hj2 with rfl | rfl | rfl
 ·all_goals (repeat' first|exact ap|refine aN ?_ ?_)
  all_goals first | exact gd | skip
  all_goals intro h1
  all_goals first | exact absurd h1 (by decide) | (cases h1; done) | skip
  (repeat' first|exact ap|refine aN ?_ ?_)
  all_goals first | exact om | skip
  refine drawP E_ok [5, 13] pl50_14 (by kernel_rfl) ?_
  (repeat' first|exact ap|refine aN ?_ ?_)
  all_goals first | exact om | skip
  refine c.use [7, 8] ?_ (by (repeat' first|exact fp|refine aN ?_ ?_); all_goals exact two1' rfl rfl) rfl
  (repeat' first|exact ap|refine aN ?_ ?_)
  all_goals first | exact om | skip
  refine ⟨1, by omega, by omega, ?_⟩
  refine ent_tau [0, 1, 2, 3, 4, 5, 6, 7, 8, 9, 10, 11, 12, 13] ⟨?_, by (repeat' first|exact tm|refine aN ?_ ?_), rfl⟩
  (repeat' first|exact fp|refine aN ?_ ?_)
  all_goals exact two1' rfl rfl
 ·all_goals (repeat' first|exact ap|refine aN ?_ ?_)
  all_goals first | exact gd | skip
  all_goals intro h1
  all_goals first | exact absurd h1 (by decide) | (cases h1; done) | skip
  (repeat' first|exact ap|refine aN ?_ ?_)
  all_goals first | exact om | skip
  refine drawP E_ok [5, 13] pl50_14 (by kernel_rfl) ?_
  (repeat' first|exact ap|refine aN ?_ ?_)
  all_goals first | exact om | skip
  refine d.use [7, 8] ?_ (by (repeat' first|exact fp|refine aN ?_ ?_); all_goals exact two1' rfl rfl) rfl
  (repeat' first|exact ap|refine aN ?_ ?_)
  all_goals first | exact om | skip
  refine ⟨2, by omega, by omega, ?_⟩
  refine ent_tau [0, 1, 2, 3, 4, 5, 6, 7, 8, 9, 10, 11, 12, 13] ⟨?_, by (repeat' first|exact tm|refine aN ?_ ?_), rfl⟩
  (repeat' first|exact fp|refine aN ?_ ?_)
  all_goals exact two1' rfl rfl
 ·all_goals (repeat' first|exact ap|refine aN ?_ ?_)
  all_goals first | exact gd | skip
  all_goals intro h1
  all_goals first | exact absurd h1 (by decide) | (cases h1; done) | skip
  (repeat' first|exact ap|refine aN ?_ ?_)
  all_goals first | exact om | skip
  refine ⟨_, _, ⟨rfl, rfl⟩, ?_⟩
  refine Ent.trans ?_ (hpk _)
  refine ent_tau [0, 1, 2, 3, 4, 5, 6, 7, 8, 9, 10, 11, 12] ⟨?_, by (repeat' first|exact tm|refine aN ?_ ?_), rfl⟩
  (repeat' first|exact fp|refine aN ?_ ?_)
  all_goals exact two1' rfl rfl
noncomputable def G50m (t : TK) (i : Nat) (bo : Bool) (co : Nat) (a : Bool) (g : (Ms × Ms)) (st : LoopState) (p : Option Code) : SHeap :=
 HQ t bo co ++ [some (.cells [.slice 5 4 0 2 2]), some (.cells [.bool a]), some (.arr 4 2 2 (mrow2 6 g.1 g.2)), some (.cells [.int .i64 i]), some (.roc [.ptr 1 0]), some (L50h st p)]
def S50m : List Nat := [0, 1, 2, 7, 8, 3, 4, 5, 6, 3, 3, 3, 3]
noncomputable def GP50m (t : TK) (bo : Bool) (co : Nat) (ob : OB) : SHeap :=
 HQ t bo co ++ [some .dead, some .dead, some .dead, some .dead, some (.roc [.ptr 1 0]), some (.pack S50m ob)]
theorem r50m (t : TK) (hv : t.Valid) (i : Nat) (hi : i < t.n) (bo : Bool) (co : Nat) (hbo : OrdV t bo co) : CallP Try.prog 103 [.yld 8, .ptr 7 0] (G50m t i bo co false ((false, 0, 0), (false, 0, 0)) .ready none) (Ret (.tup []) (G50m t i bo co ((msOf (t.trs.map fun x => (x i).1), msOf (t.trs.map fun x => (x i).2))).1.1 ((msOf (t.trs.map fun x => (x i).1), msOf (t.trs.map fun x => (x i).2))) .ready none)) := by
 have c := t103 t hv bo co hbo (stepM (fun (g : (Ms × Ms)) x => (seeS g.1 (x i).1, seeS g.2 (x i).2))) (C50m t i) (fun g x hx => y50m t hv i hi bo co g x hx) ((false, 0, 0), (false, 0, 0))
 rw [run_M, fold_two (fun g (x : Tru) => seeS g (x i).1) (fun g (x : Tru) => seeS g (x i).2), fold_ms (fun x => (x i).1), fold_ms (fun x => (x i).2), ms_trs (fun x => (x i).1), ms_trs (fun x => (x i).2)] at c
 obtain ⟨R, hR⟩ : ∃ R : (Ms × Ms), (msOf (t.trs.map fun x => (x i).1), msOf (t.trs.map fun x => (x i).2)) = R := ⟨_, rfl⟩
 rw [hR] at c ⊢
 simp only at c
 have h1 : CallP Try.prog 103 [.yld 8, .ptr 7 0] (GP50m t bo co (C50m t i ((false, 0, 0), (false, 0, 0)) true)) (Ret (.tup []) (GP50m t bo co (C50m t i R true))) := by
  refine c.use S50m ?_ (by (repeat' first|exact fp|refine aN ?_ ?_)) rfl
  exact ⟨rfl, rfl⟩
 refine CallP.pre (entPack (n := 9) (T := argT [.yld 8, .ptr 7 0]) (H := G50m t i bo co false ((false, 0, 0), (false, 0, 0)) .ready none) (D := []) S50m (P50m t i false ((false, 0, 0), (false, 0, 0)) .ready none) 8 (by (repeat' first|exact fp|refine aN ?_ ?_)) rfl rfl) ?_
 refine CallP.entR h1 ?_
 exact entUnpack (n := 9) (T := [some (none, .tup [])]) (H := GP50m t bo co (C50m t i R true)) (D := []) S50m (P50m t i R.1.1 R .ready none) 8 rfl rfl rfl ⟨trivial, trivial, trivial, trivial, trivial, trivial⟩
def row50m : Nat → List SV := fun k => match k with | 0 => [.fn (.func 51) [] [.ptr 4 0]] | _ => [.fn (.func 52) [] [.ptr 4 0]]
def spn50m (t : TK) (i : Nat) : Nat → List SV := fun k => match k with | 0 => [.int .i64 (hull (t.trs.map fun x => (x i).1)).1, .int .i64 (hull (t.trs.map fun x => (x i).1)).2] | _ => [.int .i64 (hull (t.trs.map fun x => (x i).2)).1, .int .i64 (hull (t.trs.map fun x => (x i).2)).2]
def HS50m (t : TK) (i : Nat) (bo : Bool) (co : Nat) : SHeap := HQ t bo co ++ [some (.roa 1 2 row50m), some (.cells [.int .i64 i])]
def HD50m (t : TK) (bo : Bool) (co : Nat) : SHeap := HQ t bo co ++ [some .dead, some .dead]
def K50m (t : TK) (i : Nat) (bo : Bool) (co : Nat) : CE → SHeap → Prop := fun ce h' =>
 (t.trs = [] ∧ ce = .panic (panE 10) ∧ h' = HD50m t bo co) ∨ (t.trs ≠ [] ∧ ∃ c, 2 ≤ c ∧ ce = .ret (.slice 5 2 0 2 c) ∧ h' = HD50m t bo co ++ [some (.arr 2 2 c (spn50m t i))])
theorem t50m (t : TK) (hv : t.Valid) (i : Nat) (hi : i < t.n) (bo : Bool) (co : Nat) (hbo : OrdV t bo co) : CallP Try.prog 50 [.ptr 1 0, .slice 3 1 0 2 2] (HS50m t i bo co) (K50m t i bo co) := by
 have c := r50m t hv i hi bo co hbo
 have hR0 : ((msOf (t.trs.map fun x => (x i).1), msOf (t.trs.map fun x => (x i).2)) = ((false, 0, 0), (false, 0, 0)) ∧ t.trs = []) ∨ (t.trs ≠ [] ∧ (msOf (t.trs.map fun x => (x i).1), msOf (t.trs.map fun x => (x i).2)) = ((true, (hull (t.trs.map fun x => (x i).1)).1, (hull (t.trs.map fun x => (x i).1)).2), (true, (hull (t.trs.map fun x => (x i).2)).1, (hull (t.trs.map fun x => (x i).2)).2))) := by
  cases hT : t.trs with
  | nil => exact .inl ⟨rfl, rfl⟩
  | cons x l => exact .inr ⟨List.cons_ne_nil _ _, rfl⟩
 obtain ⟨R, hR⟩ : ∃ R : (Ms × Ms), (msOf (t.trs.map fun x => (x i).1), msOf (t.trs.map fun x => (x i).2)) = R := ⟨_, rfl⟩
 rw [hR] at c hR0
 unfold K50m spn50m
 obtain ⟨u, hu⟩ : ∃ u : Int × Int, hull (t.trs.map fun x => (x i).1) = u := ⟨_, rfl⟩
 rw [hu] at hR0 ⊢
 obtain ⟨v, hvv⟩ : ∃ v : Int × Int, hull (t.trs.map fun x => (x i).2) = v := ⟨_, rfl⟩
 rw [hvv] at hR0 ⊢
 have hcl : R.1.1 = true ∨ R.1.1 = false := by cases R.1.1 <;> simp
 refine callMK (E := E) E_ok Try.func50 rfl ?_
 (repeat' first|exact ap|refine aN ?_ ?_)
 all_goals first | exact om | skip
 all_goals first | (show ((ti134.bytes : Nat) : Int) * ((2 : Nat) : Int) ≤ _; decide) | skip
 refine loopP E_ok [0, 5, 17, 18] (fun j : Nat => [(19, .int .i64 j)]) (fun j _ => match j with
   | 0 => HS50m t i bo co ++ [some (.arr 4 2 2 (mrow2m (.fnil) (.fnil))), some (.cells [.slice 5 4 0 2 2])]
   | 1 => HS50m t i bo co ++ [some (.arr 4 2 2 (mrow2m (.fn (.func 51) [] [.ptr 4 0]) (.fnil))), some (.cells [.slice 5 4 0 2 2])]
   | _ => HS50m t i bo co ++ [some (.arr 4 2 2 (mrow2 4 (false, 0, 0) (false, 0, 0))), some (.cells [.slice 5 4 0 2 2])]) (fun j => j ≤ 2) (fun j => 2 - j) 0 (Nat.zero_le _) ?_ ?_
 ·refine ent_tau [0, 1, 2, 3, 4, 5, 6] ⟨?_, by (repeat' first|exact tm|refine aN ?_ ?_), rfl⟩
  (repeat' first|exact fp|refine aN ?_ ?_)
  all_goals exact two1' rfl rfl
 rintro j hj
 have hj2 : j = 0 ∨ j = 1 ∨ j = 2 := by omega
 rcases hj2 with rfl | rfl | rfl
 ·all_goals (repeat' first|exact ap|refine aN ?_ ?_)
  all_goals first | exact gd | skip
  all_goals intro h1
  all_goals first | exact absurd h1 (by decide) | (cases h1; done) | skip
  (repeat' first|exact ap|refine aN ?_ ?_)
  all_goals first | exact om | skip
  refine ⟨1, by omega, by omega, ?_⟩
  refine ent_tau [0, 1, 2, 3, 4, 5, 6] ⟨?_, by (repeat' first|exact tm|refine aN ?_ ?_), rfl⟩
  (repeat' first|exact fp|refine aN ?_ ?_)
  all_goals exact two1' rfl rfl
 ·all_goals (repeat' first|exact ap|refine aN ?_ ?_)
  all_goals first | exact gd | skip
  all_goals intro h1
  all_goals first | exact absurd h1 (by decide) | (cases h1; done) | skip
  (repeat' first|exact ap|refine aN ?_ ?_)
  all_goals first | exact om | skip
  refine ⟨2, by omega, by omega, ?_⟩
  refine ent_tau [0, 1, 2, 3, 4, 5, 6] ⟨?_, by (repeat' first|exact tm|refine aN ?_ ?_), rfl⟩
  (repeat' first|exact fp|refine aN ?_ ?_)
  all_goals exact two1' rfl rfl
 ·all_goals (repeat' first|exact ap|refine aN ?_ ?_)
  all_goals first | exact gd | skip
  all_goals intro h1
  all_goals first | exact absurd h1 (by decide) | (cases h1; done) | skip
  (repeat' first|exact ap|refine aN ?_ ?_)
  all_goals first | exact om | skip
  refine (t67o t bo co).use [0, 1, 2] ?_ (by (repeat' first|exact fp|refine aN ?_ ?_)) rfl
  (repeat' first|exact ap|refine aN ?_ ?_)
  refine rangeP E_ok rfl rfl ?_
  refine c.use [0, 1, 2, 6, 7, 5, 4, 8, 10] ?_ (by (repeat' first|exact fp|refine aN ?_ ?_); all_goals exact two1' rfl rfl) rfl
  refine ⟨by decide, ?_⟩
  rcases hR0 with ⟨rfl, hne⟩ | ⟨hne, rfl⟩
  ·(repeat' first|exact ap|refine aN ?_ ?_)
   all_goals first | exact om | skip
   refine must (fun hb => ?_) (fun hb => ?_)
   ·exact absurd hb (by decide)
   ·(repeat' first|exact ap|refine aN ?_ ?_)
    ·exact fun o h => h
    refine ⟨_, _, .inl ⟨hne, rfl, rfl⟩, ?_⟩
    exact ent_tau [0, 1, 2, 3, 4] ⟨by (repeat' first|exact fp|refine aN ?_ ?_), by (repeat' first|exact tm|refine aN ?_ ?_), rfl⟩
  ·(repeat' first|exact ap|refine aN ?_ ?_)
   all_goals first | exact om | skip
   refine must (fun hb => ?_) (fun hb => ?_)
   ·(repeat' first|exact ap|refine aN ?_ ?_)
    all_goals first | exact om | skip
    refine loopP E_ok [46, 47] (fun g : Nat × Nat => [(48, .int .i64 g.1), (11, match g.1 with | 0 => .snil | _ => .slice 11 2 0 g.1 g.2)]) (fun g H => match g.1 with
      | 0 => HQ t bo co ++ [some (.roa 1 2 row50m), some .dead, some (.arr 4 2 2 (mrow2 4 (true, u.1, u.2) (true, v.1, v.2))), some (.cells [.slice 5 4 0 2 2]), some .dead, some .dead, some (.obj isDfr), some .dead]
      | 1 => HQ t bo co ++ [some (.roa 1 2 row50m), some .dead, some (.arr 4 2 2 (mrow2 4 (true, u.1, u.2) (true, v.1, v.2))), some (.cells [.slice 5 4 0 2 2]), some .dead, some .dead, some (.obj isDfr), some .dead, some (.arr 2 1 g.2 (fun _ => [.int .i64 u.1, .int .i64 u.2]))]
      | _ => HQ t bo co ++ [some (.roa 1 2 row50m), some .dead, some (.arr 4 2 2 (mrow2 4 (true, u.1, u.2) (true, v.1, v.2))), some (.cells [.slice 5 4 0 2 2]), some .dead, some .dead, some (.obj isDfr), some .dead, some (.arr 2 2 g.2 (fun k => match k with | 0 => [.int .i64 u.1, .int .i64 u.2] | _ => [.int .i64 v.1, .int .i64 v.2]))]) (fun g => g.1 ≤ 2 ∧ (0 < g.1 → g.1 ≤ g.2 ∧ g.2 ≤ 9223372036854775807)) (fun g => 2 - g.1) (0, 0) ⟨Nat.zero_le _, fun h => absurd h (Nat.lt_irrefl 0)⟩ ?_ ?_
    ·refine ent_tau [0, 1, 2, 3, 4, 5, 6, 7, 8, 9, 10] ⟨?_, by (repeat' first|exact tm|refine aN ?_ ?_), rfl⟩
     (repeat' first|exact fp|refine aN ?_ ?_)
     all_goals first | exact fun o h => h | exact two1' rfl rfl
    rintro ⟨j, c⟩ ⟨hj, hjc⟩
    simp only at hj hjc
    have hj2 : j = 0 ∨ j = 1 ∨ j = 2 := by omega
    rcases hj2 with rfl | rfl | rfl
    ·all_goals (repeat' first|exact ap|refine aN ?_ ?_)
     all_goals first | exact gd | skip
     all_goals intro h1
     all_goals first | exact absurd h1 (by decide) | (cases h1; done) | skip
     (repeat' first|exact ap|refine aN ?_ ?_)
     all_goals first | exact om | skip
     all_goals first | exact (hjc (by omega)).2 | exact (hjc (by omega)).1 | exact one1 rfl | (show 1 * ti28.bytes ≤ _; decide) | (show 1 * ti28.bytes ≤ _; decide) | skip
     intro c' hc1 hc2
     (repeat' first|exact ap|refine aN ?_ ?_)
     all_goals first | exact om | skip
     refine ⟨(1, c'), ⟨by simp only; omega, fun _ => ⟨hc1, hc2⟩⟩, by simp only; omega, ?_⟩
     refine ent_tau [0, 1, 2, 3, 4, 5, 6, 7, 8, 9, 10, 13] ⟨?_, by (repeat' first|exact tm|refine aN ?_ ?_), rfl⟩
     (repeat' first|exact fp|refine aN ?_ ?_)
     all_goals first | exact fun o h => h | exact two1' rfl rfl | exact one1' rfl
    ·all_goals (repeat' first|exact ap|refine aN ?_ ?_)
     all_goals first | exact gd | skip
     all_goals intro h1
     all_goals first | exact absurd h1 (by decide) | (cases h1; done) | skip
     (repeat' first|exact ap|refine aN ?_ ?_)
     all_goals first | exact om | skip
     all_goals first | exact (hjc (by omega)).2 | exact (hjc (by omega)).1 | exact one1 rfl | (show 2 * ti28.bytes ≤ _; decide) | (show 1 * ti28.bytes ≤ _; decide) | skip
     intro c' hc1 hc2
     (repeat' first|exact ap|refine aN ?_ ?_)
     all_goals first | exact om | skip
     refine ⟨(2, c'), ⟨by simp only; omega, fun _ => ⟨hc1, hc2⟩⟩, by simp only; omega, ?_⟩
     refine ent_tau [0, 1, 2, 3, 4, 5, 6, 7, 8, 9, 10, 14] ⟨?_, by (repeat' first|exact tm|refine aN ?_ ?_), rfl⟩
     (repeat' first|exact fp|refine aN ?_ ?_)
     all_goals first | exact fun o h => h | exact two1' rfl rfl | exact one1' rfl
    ·all_goals (repeat' first|exact ap|refine aN ?_ ?_)
     all_goals first | exact gd | skip
     all_goals intro h1
     all_goals first | exact absurd h1 (by decide) | (cases h1; done) | skip
     (repeat' first|exact ap|refine aN ?_ ?_)
     all_goals first | exact om | skip
     ·exact fun o h => h
     refine ⟨_, _, .inr ⟨hne, c, (hjc (by omega)).1, rfl, rfl⟩, ?_⟩
     refine ent_tau [0, 1, 2, 3, 4, 11] ⟨?_, by (repeat' first|exact tm|refine aN ?_ ?_), rfl⟩
     (repeat' first|exact fp|refine aN ?_ ?_)
     all_goals exact two1' rfl rfl
   ·cases hb
end Go.Proofs.Ytioajogaghgipaa
/-
 Contract: ticket.Minutes.
-/
namespace Go.Proofs.Ytioajogaghgipaa
open Go Go.Sy Tic
set_option linter.unusedSimpArgs false
set_option maxRecDepth 100000
set_option maxHeartbeats 4000000
attribute [local irreducible] CallP CodeP Ent YieldP
set_option maxHeartbeats 16000000

def K50ma (t : TK) (i : Nat) : CE → SHeap → Prop := fun ce h' =>
 (t.trs = [] ∧ ce = .panic (panE 10) ∧ h' = [some (.roa 5 t.n (TF t)), some .dead, some .dead, some .dead, some .dead]) ∨ (t.trs ≠ [] ∧ ∃ c, 2 ≤ c ∧ ce = .ret (.slice 5 2 0 2 c) ∧ h' = [some (.roa 5 t.n (TF t)), some .dead, some .dead, some .dead, some .dead, some (.arr 2 2 c (spn50m t i))])
theorem t50ma (t : TK) (hv : t.Valid) (i : Nat) (hi : i < t.n) (c : Nat) (hc : t.n ≤ c) : CallP Try.prog 50 [.ptr 1 0, .slice 3 1 0 2 2] (HA t c ++ [some (.roa 1 2 row50m), some (.cells [.int .i64 i])]) (K50ma t i) := by
 have h := t50m t hv i hi true c (.inr ⟨by omega, rfl, hc⟩)
 refine CallP.ent (CallP.pre (h' := HS50m t i true c) (Ent.trans (entCells (i := 1) (cs' := [.int .i64 t.huts, .osl t.b 0 5 t.n t.cap, .osl true 2 1 t.n c]) rfl (fun η => by simp [denL, den])) ?_) (h.mono fun ce h1 hk => ?_))
 ·refine ent_tau [0, 1, 2, 3, 4] ⟨?_, by (repeat' first|exact tm|refine aN ?_ ?_), rfl⟩
  (repeat' first|exact fp|refine aN ?_ ?_)
  all_goals exact two1' rfl rfl
 ·rcases hk with ⟨hne, rfl, rfl⟩ | ⟨hne, c', hc', rfl, rfl⟩
  ·refine ⟨_, _, .inl ⟨hne, rfl, rfl⟩, ?_⟩
   show Ent 5 ⟨[some (none, panE 10)], _, []⟩ ⟨[some (none, panE 10)], _, []⟩
   exact ent_tau [0, 1, 2, 3, 4] ⟨by (repeat' first|exact fp|refine aN ?_ ?_), by (repeat' first|exact tm|refine aN ?_ ?_), rfl⟩
  ·refine ⟨_, _, .inr ⟨hne, c', hc', rfl, rfl⟩, ?_⟩
   show Ent 5 ⟨[some (none, .slice 5 2 0 2 c')], _, []⟩ ⟨[some (none, .slice 5 2 0 2 c')], _, []⟩
   refine ent_tau [0, 1, 2, 3, 4, 5] ⟨?_, by (repeat' first|exact tm|refine aN ?_ ?_), rfl⟩
   (repeat' first|exact fp|refine aN ?_ ?_)
   all_goals exact two1' rfl rfl
open Classical in
noncomputable def minT (t : TK) (k : Int) : ((Int × Int) × (Int × Int)) × Int := if ¬ t.Valid then (((0, 0), (0, 0)), 1) else if inI k 0 ((t.n : Nat) - 1) = false then (((0, 0), (0, 0)), 2) else if t.trs = [] then (((0, 0), (0, 0)), 10) else ((t.bought k.toNat, t.door k.toNat), 0)
def pl14_2s : Plan := eg [0, 1, 5, 6] <| .alt 2 (.alt 3 (.alt 4 (.alt 7 (.alt 8 (.eager 9 <| .done) .no) .no) (.alt 7 (.alt 4 (.alt 8 (.eager 9 <| .done) .no) .no) .no)) (.alt 7 (.alt 3 (.alt 4 (.alt 8 (.eager 9 <| .done) .no) .no) .no) .no)) (.alt 7 (.alt 2 (.alt 3 (.alt 4 (.alt 8 (.eager 9 <| .done) .no) .no) .no) .no) .no)
theorem t14 (t : TK) (hn : t.n ≤ 1000000) (hh : InR .i64 t.huts) (k : Int) : CallP Try.prog 14 [TA t, .int .i64 k] (TH t) (Ret (.tup [.agg [.int .i64 (minT t k).1.1.1, .int .i64 (minT t k).1.1.2], .agg [.int .i64 (minT t k).1.2.1, .int .i64 (minT t k).1.2.2], .int .i64 (minT t k).2]) (TH t)) := by
 obtain ⟨B, hB⟩ : ∃ B, inI k 0 ((t.n : Nat) - 1) = B := ⟨_, rfl⟩
 have c49 := t49 t k hn
 rw [hB] at c49
 refine callD (E := E) E_ok Try.func14 rfl Try.func46 ⟨_, _, _, _, _, _, _, _, rfl, rfl, rfl⟩ rfl rfl ?_
 (repeat' first|exact ap|refine aN ?_ ?_)
 refine drawP E_ok [1] pl14_2s (by kernel_rfl) ?_
 (repeat' first|exact ap|refine aN ?_ ?_)
 ·refine c49.use [0] ?_ (by (repeat' first|exact fp|refine aN ?_ ?_)) rfl
  (repeat' first|exact ap|refine aN ?_ ?_)
  ·refine CallP.frame (t48 t B hn hh) [0] (by (repeat' first|exact fp|refine aN ?_ ?_)) (apartB_ok rfl) rfl ?_
   rintro ce h' (⟨hv, hb, h0, rfl, rfl⟩ | ⟨hv, hb, h0, c, hc, rfl, rfl⟩ | ⟨hv, rfl, rfl⟩ | ⟨hv, hb, rfl, rfl⟩)
   ·exfalso
    rw [hb, h0] at hB
    have := (inI_iff.1 hB)
    omega
   ·refine ⟨ownB_ok rfl, ?_⟩
    have hk : 0 ≤ k ∧ k ≤ (t.n : Nat) - 1 := inI_iff.1 (hB.trans hb)
    obtain ⟨i, rfl⟩ : ∃ i : Nat, k = i := ⟨k.toNat, by omega⟩
    (repeat' first|exact ap|refine aN ?_ ?_)
    all_goals first | exact om | skip
    refine CallP.frame (t50ma t hv i (by omega) c hc.1) [0, 6, 7, 8, 2] (by (repeat' first|exact fp|refine aN ?_ ?_); all_goals exact two1' rfl rfl) (apartB_ok rfl) rfl ?_
    rintro ce h' (⟨hne, rfl, rfl⟩ | ⟨hne, c', hc', rfl, rfl⟩)
    ·refine ⟨ownB_ok rfl, ?_⟩
     have e0 : minT t i = (((0, 0), (0, 0)), 10) := by unfold minT; rw [if_neg (by simpa using hv), if_neg (by rw [hB, hb]; decide), if_pos hne]
     (repeat' first|exact ap|refine aN ?_ ?_)
     refine (t47s 10 0).use [5] ?_ (by (repeat' first|exact fp|refine aN ?_ ?_)) rfl
     (repeat' first|exact ap|refine aN ?_ ?_)
     refine ⟨_, _, ⟨rfl, rfl⟩, ?_⟩
     rw [e0]
     exact ent_tau [0] ⟨by (repeat' first|exact fp|refine aN ?_ ?_), by (repeat' first|exact tm|refine aN ?_ ?_), rfl⟩
    ·refine ⟨ownB_ok rfl, ?_⟩
     have e0 : minT t i = ((t.bought i, t.door i), 0) := by unfold minT; rw [if_neg (by simpa using hv), if_neg (by rw [hB, hb]; decide), if_neg hne, Int.toNat_natCast]
     (repeat' first|exact ap|refine aN ?_ ?_)
     all_goals first | exact om | skip
     refine drawP E_ok [9] pl14_3 (by kernel_rfl) ?_
     (repeat' first|exact ap|refine aN ?_ ?_)
     all_goals first | exact om | skip
     refine (t47n 0).use [5] ?_ (by (repeat' first|exact fp|refine aN ?_ ?_)) rfl
     (repeat' first|exact ap|refine aN ?_ ?_)
     refine ⟨_, _, ⟨rfl, rfl⟩, ?_⟩
     rw [e0]
     exact ent_tau [0] ⟨by (repeat' first|exact fp|refine aN ?_ ?_), by (repeat' first|exact tm|refine aN ?_ ?_), rfl⟩
   ·refine ⟨ownB_ok rfl, ?_⟩
    have e0 : minT t k = (((0, 0), (0, 0)), 1) := by unfold minT; rw [if_pos hv]
    (repeat' first|exact ap|refine aN ?_ ?_)
    refine (t47s 1 0).use [5] ?_ (by (repeat' first|exact fp|refine aN ?_ ?_)) rfl
    (repeat' first|exact ap|refine aN ?_ ?_)
    refine ⟨_, _, ⟨rfl, rfl⟩, ?_⟩
    rw [e0]
    exact ent_tau [0] ⟨by (repeat' first|exact fp|refine aN ?_ ?_), by (repeat' first|exact tm|refine aN ?_ ?_), rfl⟩
   ·refine ⟨ownB_ok rfl, ?_⟩
    have e0 : minT t k = (((0, 0), (0, 0)), 2) := by unfold minT; rw [if_neg (by simpa using hv), if_pos (by rw [hB]; exact hb)]
    (repeat' first|exact ap|refine aN ?_ ?_)
    refine (t47s 2 0).use [5] ?_ (by (repeat' first|exact fp|refine aN ?_ ?_)) rfl
    (repeat' first|exact ap|refine aN ?_ ?_)
    refine ⟨_, _, ⟨rfl, rfl⟩, ?_⟩
    rw [e0]
    exact ent_tau [0] ⟨by (repeat' first|exact fp|refine aN ?_ ?_), by (repeat' first|exact tm|refine aN ?_ ?_), rfl⟩
  ·refine CallP.frame (t48 t B hn hh) [0] (by (repeat' first|exact fp|refine aN ?_ ?_)) (apartB_ok rfl) rfl ?_
   rintro ce h' (⟨hv, hb, h0, rfl, rfl⟩ | ⟨hv, hb, h0, c, hc, rfl, rfl⟩ | ⟨hv, rfl, rfl⟩ | ⟨hv, hb, rfl, rfl⟩)
   ·exfalso
    rw [hb, h0] at hB
    have := (inI_iff.1 hB)
    omega
   ·refine ⟨ownB_ok rfl, ?_⟩
    have hk : 0 ≤ k ∧ k ≤ (t.n : Nat) - 1 := inI_iff.1 (hB.trans hb)
    obtain ⟨i, rfl⟩ : ∃ i : Nat, k = i := ⟨k.toNat, by omega⟩
    (repeat' first|exact ap|refine aN ?_ ?_)
    all_goals first | exact om | skip
    refine CallP.frame (t50ma t hv i (by omega) c hc.1) [0, 7, 8, 6, 2] (by (repeat' first|exact fp|refine aN ?_ ?_); all_goals exact two1' rfl rfl) (apartB_ok rfl) rfl ?_
    rintro ce h' (⟨hne, rfl, rfl⟩ | ⟨hne, c', hc', rfl, rfl⟩)
    ·refine ⟨ownB_ok rfl, ?_⟩
     have e0 : minT t i = (((0, 0), (0, 0)), 10) := by unfold minT; rw [if_neg (by simpa using hv), if_neg (by rw [hB, hb]; decide), if_pos hne]
     (repeat' first|exact ap|refine aN ?_ ?_)
     refine (t47s 10 0).use [5] ?_ (by (repeat' first|exact fp|refine aN ?_ ?_)) rfl
     (repeat' first|exact ap|refine aN ?_ ?_)
     refine ⟨_, _, ⟨rfl, rfl⟩, ?_⟩
     rw [e0]
     exact ent_tau [0] ⟨by (repeat' first|exact fp|refine aN ?_ ?_), by (repeat' first|exact tm|refine aN ?_ ?_), rfl⟩
    ·refine ⟨ownB_ok rfl, ?_⟩
     have e0 : minT t i = ((t.bought i, t.door i), 0) := by unfold minT; rw [if_neg (by simpa using hv), if_neg (by rw [hB, hb]; decide), if_neg hne, Int.toNat_natCast]
     (repeat' first|exact ap|refine aN ?_ ?_)
     all_goals first | exact om | skip
     refine drawP E_ok [9] pl14_3 (by kernel_rfl) ?_
     (repeat' first|exact ap|refine aN ?_ ?_)
     all_goals first | exact om | skip
     refine (t47n 0).use [5] ?_ (by (repeat' first|exact fp|refine aN ?_ ?_)) rfl
     (repeat' first|exact ap|refine aN ?_ ?_)
     refine ⟨_, _, ⟨rfl, rfl⟩, ?_⟩
     rw [e0]
     exact ent_tau [0] ⟨by (repeat' first|exact fp|refine aN ?_ ?_), by (repeat' first|exact tm|refine aN ?_ ?_), rfl⟩
   ·refine ⟨ownB_ok rfl, ?_⟩
    have e0 : minT t k = (((0, 0), (0, 0)), 1) := by unfold minT; rw [if_pos hv]
    (repeat' first|exact ap|refine aN ?_ ?_)
    refine (t47s 1 0).use [5] ?_ (by (repeat' first|exact fp|refine aN ?_ ?_)) rfl
    (repeat' first|exact ap|refine aN ?_ ?_)
    refine ⟨_, _, ⟨rfl, rfl⟩, ?_⟩
    rw [e0]
    exact ent_tau [0] ⟨by (repeat' first|exact fp|refine aN ?_ ?_), by (repeat' first|exact tm|refine aN ?_ ?_), rfl⟩
   ·refine ⟨ownB_ok rfl, ?_⟩
    have e0 : minT t k = (((0, 0), (0, 0)), 2) := by unfold minT; rw [if_neg (by simpa using hv), if_pos (by rw [hB]; exact hb)]
    (repeat' first|exact ap|refine aN ?_ ?_)
    refine (t47s 2 0).use [5] ?_ (by (repeat' first|exact fp|refine aN ?_ ?_)) rfl
    (repeat' first|exact ap|refine aN ?_ ?_)
    refine ⟨_, _, ⟨rfl, rfl⟩, ?_⟩
    rw [e0]
    exact ent_tau [0] ⟨by (repeat' first|exact fp|refine aN ?_ ?_), by (repeat' first|exact tm|refine aN ?_ ?_), rfl⟩
 ·refine c49.use [0] ?_ (by (repeat' first|exact fp|refine aN ?_ ?_)) rfl
  (repeat' first|exact ap|refine aN ?_ ?_)
  refine CallP.frame (t48 t B hn hh) [0] (by (repeat' first|exact fp|refine aN ?_ ?_)) (apartB_ok rfl) rfl ?_
  rintro ce h' (⟨hv, hb, h0, rfl, rfl⟩ | ⟨hv, hb, h0, c, hc, rfl, rfl⟩ | ⟨hv, rfl, rfl⟩ | ⟨hv, hb, rfl, rfl⟩)
  ·exfalso
   rw [hb, h0] at hB
   have := (inI_iff.1 hB)
   omega
  ·refine ⟨ownB_ok rfl, ?_⟩
   have hk : 0 ≤ k ∧ k ≤ (t.n : Nat) - 1 := inI_iff.1 (hB.trans hb)
   obtain ⟨i, rfl⟩ : ∃ i : Nat, k = i := ⟨k.toNat, by omega⟩
   (repeat' first|exact ap|refine aN ?_ ?_)
   all_goals first | exact om | skip
   refine CallP.frame (t50ma t hv i (by omega) c hc.1) [0, 7, 8, 6, 2] (by (repeat' first|exact fp|refine aN ?_ ?_); all_goals exact two1' rfl rfl) (apartB_ok rfl) rfl ?_
   rintro ce h' (⟨hne, rfl, rfl⟩ | ⟨hne, c', hc', rfl, rfl⟩)
   ·refine ⟨ownB_ok rfl, ?_⟩
    have e0 : minT t i = (((0, 0), (0, 0)), 10) := by unfold minT; rw [if_neg (by simpa using hv), if_neg (by rw [hB, hb]; decide), if_pos hne]
    (repeat' first|exact ap|refine aN ?_ ?_)
    refine (t47s 10 0).use [5] ?_ (by (repeat' first|exact fp|refine aN ?_ ?_)) rfl
    (repeat' first|exact ap|refine aN ?_ ?_)
    refine ⟨_, _, ⟨rfl, rfl⟩, ?_⟩
    rw [e0]
    exact ent_tau [0] ⟨by (repeat' first|exact fp|refine aN ?_ ?_), by (repeat' first|exact tm|refine aN ?_ ?_), rfl⟩
   ·refine ⟨ownB_ok rfl, ?_⟩
    have e0 : minT t i = ((t.bought i, t.door i), 0) := by unfold minT; rw [if_neg (by simpa using hv), if_neg (by rw [hB, hb]; decide), if_neg hne, Int.toNat_natCast]
    (repeat' first|exact ap|refine aN ?_ ?_)
    all_goals first | exact om | skip
    refine drawP E_ok [9] pl14_3 (by kernel_rfl) ?_
    (repeat' first|exact ap|refine aN ?_ ?_)
    all_goals first | exact om | skip
    refine (t47n 0).use [5] ?_ (by (repeat' first|exact fp|refine aN ?_ ?_)) rfl
    (repeat' first|exact ap|refine aN ?_ ?_)
    refine ⟨_, _, ⟨rfl, rfl⟩, ?_⟩
    rw [e0]
    exact ent_tau [0] ⟨by (repeat' first|exact fp|refine aN ?_ ?_), by (repeat' first|exact tm|refine aN ?_ ?_), rfl⟩
  ·refine ⟨ownB_ok rfl, ?_⟩
   have e0 : minT t k = (((0, 0), (0, 0)), 1) := by unfold minT; rw [if_pos hv]
   (repeat' first|exact ap|refine aN ?_ ?_)
   refine (t47s 1 0).use [5] ?_ (by (repeat' first|exact fp|refine aN ?_ ?_)) rfl
   (repeat' first|exact ap|refine aN ?_ ?_)
   refine ⟨_, _, ⟨rfl, rfl⟩, ?_⟩
   rw [e0]
   exact ent_tau [0] ⟨by (repeat' first|exact fp|refine aN ?_ ?_), by (repeat' first|exact tm|refine aN ?_ ?_), rfl⟩
  ·refine ⟨ownB_ok rfl, ?_⟩
   have e0 : minT t k = (((0, 0), (0, 0)), 2) := by unfold minT; rw [if_neg (by simpa using hv), if_pos (by rw [hB]; exact hb)]
   (repeat' first|exact ap|refine aN ?_ ?_)
   refine (t47s 2 0).use [5] ?_ (by (repeat' first|exact fp|refine aN ?_ ?_)) rfl
   (repeat' first|exact ap|refine aN ?_ ?_)
   refine ⟨_, _, ⟨rfl, rfl⟩, ?_⟩
   rw [e0]
   exact ent_tau [0] ⟨by (repeat' first|exact fp|refine aN ?_ ?_), by (repeat' first|exact tm|refine aN ?_ ?_), rfl⟩
 ·refine c49.use [0] ?_ (by (repeat' first|exact fp|refine aN ?_ ?_)) rfl
  (repeat' first|exact ap|refine aN ?_ ?_)
  refine CallP.frame (t48 t B hn hh) [0] (by (repeat' first|exact fp|refine aN ?_ ?_)) (apartB_ok rfl) rfl ?_
  rintro ce h' (⟨hv, hb, h0, rfl, rfl⟩ | ⟨hv, hb, h0, c, hc, rfl, rfl⟩ | ⟨hv, rfl, rfl⟩ | ⟨hv, hb, rfl, rfl⟩)
  ·exfalso
   rw [hb, h0] at hB
   have := (inI_iff.1 hB)
   omega
  ·refine ⟨ownB_ok rfl, ?_⟩
   have hk : 0 ≤ k ∧ k ≤ (t.n : Nat) - 1 := inI_iff.1 (hB.trans hb)
   obtain ⟨i, rfl⟩ : ∃ i : Nat, k = i := ⟨k.toNat, by omega⟩
   (repeat' first|exact ap|refine aN ?_ ?_)
   all_goals first | exact om | skip
   refine CallP.frame (t50ma t hv i (by omega) c hc.1) [0, 7, 8, 6, 2] (by (repeat' first|exact fp|refine aN ?_ ?_); all_goals exact two1' rfl rfl) (apartB_ok rfl) rfl ?_
   rintro ce h' (⟨hne, rfl, rfl⟩ | ⟨hne, c', hc', rfl, rfl⟩)
   ·refine ⟨ownB_ok rfl, ?_⟩
    have e0 : minT t i = (((0, 0), (0, 0)), 10) := by unfold minT; rw [if_neg (by simpa using hv), if_neg (by rw [hB, hb]; decide), if_pos hne]
    (repeat' first|exact ap|refine aN ?_ ?_)
    refine (t47s 10 0).use [5] ?_ (by (repeat' first|exact fp|refine aN ?_ ?_)) rfl
    (repeat' first|exact ap|refine aN ?_ ?_)
    refine ⟨_, _, ⟨rfl, rfl⟩, ?_⟩
    rw [e0]
    exact ent_tau [0] ⟨by (repeat' first|exact fp|refine aN ?_ ?_), by (repeat' first|exact tm|refine aN ?_ ?_), rfl⟩
   ·refine ⟨ownB_ok rfl, ?_⟩
    have e0 : minT t i = ((t.bought i, t.door i), 0) := by unfold minT; rw [if_neg (by simpa using hv), if_neg (by rw [hB, hb]; decide), if_neg hne, Int.toNat_natCast]
    (repeat' first|exact ap|refine aN ?_ ?_)
    all_goals first | exact om | skip
    refine drawP E_ok [9] pl14_3 (by kernel_rfl) ?_
    (repeat' first|exact ap|refine aN ?_ ?_)
    all_goals first | exact om | skip
    refine (t47n 0).use [5] ?_ (by (repeat' first|exact fp|refine aN ?_ ?_)) rfl
    (repeat' first|exact ap|refine aN ?_ ?_)
    refine ⟨_, _, ⟨rfl, rfl⟩, ?_⟩
    rw [e0]
    exact ent_tau [0] ⟨by (repeat' first|exact fp|refine aN ?_ ?_), by (repeat' first|exact tm|refine aN ?_ ?_), rfl⟩
  ·refine ⟨ownB_ok rfl, ?_⟩
   have e0 : minT t k = (((0, 0), (0, 0)), 1) := by unfold minT; rw [if_pos hv]
   (repeat' first|exact ap|refine aN ?_ ?_)
   refine (t47s 1 0).use [5] ?_ (by (repeat' first|exact fp|refine aN ?_ ?_)) rfl
   (repeat' first|exact ap|refine aN ?_ ?_)
   refine ⟨_, _, ⟨rfl, rfl⟩, ?_⟩
   rw [e0]
   exact ent_tau [0] ⟨by (repeat' first|exact fp|refine aN ?_ ?_), by (repeat' first|exact tm|refine aN ?_ ?_), rfl⟩
  ·refine ⟨ownB_ok rfl, ?_⟩
   have e0 : minT t k = (((0, 0), (0, 0)), 2) := by unfold minT; rw [if_neg (by simpa using hv), if_pos (by rw [hB]; exact hb)]
   (repeat' first|exact ap|refine aN ?_ ?_)
   refine (t47s 2 0).use [5] ?_ (by (repeat' first|exact fp|refine aN ?_ ?_)) rfl
   (repeat' first|exact ap|refine aN ?_ ?_)
   refine ⟨_, _, ⟨rfl, rfl⟩, ?_⟩
   rw [e0]
   exact ent_tau [0] ⟨by (repeat' first|exact fp|refine aN ?_ ?_), by (repeat' first|exact tm|refine aN ?_ ?_), rfl⟩
end Go.Proofs.Ytioajogaghgipaa
/-
 Contract: ticket.Passed.
-/
namespace Go.Proofs.Ytioajogaghgipaa
open Go Go.Sy Tic
set_option linter.unusedSimpArgs false
set_option maxRecDepth 100000
set_option maxHeartbeats 4000000
attribute [local irreducible] CallP CodeP Ent YieldP
set_option maxHeartbeats 16000000

open Classical in
noncomputable def pasT (t : TK) (k : Int) : Int × Int × Int := if ¬ t.Valid then (0, 0, 1) else if inI k 0 ((t.n : Nat) - 1) = false then (0, 0, 2) else if t.trs = [] then (0, 0, 10) else ((t.surely k.toNat : Nat), (t.perhaps k.toNat : Nat), 0)
theorem mask_yes {p : Nat → Bool} {k : Nat} (h : p k = true) : maskN p (k + 1) = maskN p k ||| 2 ^ k := by
 rw [maskN_or, maskN, h]
theorem mask_no {p : Nat → Bool} {k : Nat} (h : p k = false) : maskN p (k + 1) = maskN p k := by
 rw [maskN, h]
 rfl
theorem t18 (t : TK) (hn : t.n ≤ 1000000) (hh : InR .i64 t.huts) (k : Int) : CallP Try.prog 18 [TA t, .int .i64 k] (TH t) (Ret (.tup [.int .i64 (pasT t k).1, .int .i64 (pasT t k).2.1, .int .i64 (pasT t k).2.2]) (TH t)) := by
 obtain ⟨B, hB⟩ : ∃ B, inI k 0 ((t.n : Nat) - 1) = B := ⟨_, rfl⟩
 have c49 := t49 t k hn
 rw [hB] at c49
 refine callD (E := E) E_ok Try.func18 rfl Try.func61 ⟨_, _, _, _, _, _, _, _, rfl, rfl, rfl⟩ rfl rfl ?_
 (repeat' first|exact ap|refine aN ?_ ?_)
 refine drawP E_ok [1] pl18_2 (by kernel_rfl) ?_
 (repeat' first|exact ap|refine aN ?_ ?_)
 refine c49.use [0] ?_ (by (repeat' first|exact fp|refine aN ?_ ?_)) rfl
 (repeat' first|exact ap|refine aN ?_ ?_)
 refine CallP.frame (t48 t B hn hh) [0] (by (repeat' first|exact fp|refine aN ?_ ?_)) (apartB_ok rfl) rfl ?_
 rintro ce h' (⟨hv, hb, h0, rfl, rfl⟩ | ⟨hv, hb, h0, c, hc, rfl, rfl⟩ | ⟨hv, rfl, rfl⟩ | ⟨hv, hb, rfl, rfl⟩)
 ·exfalso
  rw [hb, h0] at hB
  have := (inI_iff.1 hB)
  omega
 ·refine ⟨ownB_ok rfl, ?_⟩
  have hk : 0 ≤ k ∧ k ≤ (t.n : Nat) - 1 := inI_iff.1 (hB.trans hb)
  obtain ⟨i, rfl⟩ : ∃ i : Nat, k = i := ⟨k.toNat, by omega⟩
  have hn5 := hv.2.1
  have c57 := fun o (ho : o < t.n) => t57 t hv true c (.inr ⟨h0, rfl, hc.1⟩) _ _ (.inl ⟨i, o, by omega, by omega, rfl, rfl⟩)
  (repeat' first|exact ap|refine aN ?_ ?_)
  all_goals first | exact om | skip
  refine loopP E_ok [1, 2, 4, 5, 6, 7, 12, 20] (fun o : Nat => [(8, .int .i64 (maskN (fun o => t.trs.all fun x => over x i o) o : Nat)), (9, .int .i64 (maskN (fun o => t.trs.any fun x => over x i o) o : Nat)), (21, .int .i64 o)]) (fun _ _ => [some (.roa 5 t.n (TF t)), some (.cells (tb t)), some (.cells [.int .i64 0]), some (.roc [.int .i64 t.huts, .osl t.b 0 5 t.n t.cap, .osl true 4 1 t.n c]), some (.roa 1 t.n (rowO (ord t)))]) (fun o => o ≤ t.n ∧ (0 < o → t.trs ≠ [])) (fun o => t.n - o) 0 ⟨Nat.zero_le _, fun h => absurd h (Nat.lt_irrefl 0)⟩ ?_ ?_
  ·refine Ent.trans (entCells (i := 3) (cs' := [.int .i64 t.huts, .osl t.b 0 5 t.n t.cap, .osl true 4 1 t.n c]) rfl (fun η => by simp [denL, den])) ?_
   exact ent_tau [0, 1, 2, 3, 4] ⟨by (repeat' first|exact fp|refine aN ?_ ?_), by (repeat' first|exact tm|refine aN ?_ ?_), rfl⟩
  rintro o ⟨ho, hne⟩
  refine And.intro ?_ (And.intro (fun hlt => ?_) (fun hlt => ?_))
  ·(repeat' first|exact ap|refine aN ?_ ?_)
  ·have hlt' : o < t.n := by
    have := of_decide_eq_true hlt
    omega
   (repeat' first|exact ap|refine aN ?_ ?_)
   refine CallP.frame (c57 o hlt') [0, 3, 4] (by (repeat' first|exact fp|refine aN ?_ ?_)) (apartB_ok rfl) rfl ?_
   rintro ce h' ⟨rfl, rfl⟩
   refine ⟨ownB_ok rfl, ?_⟩
   cases hE : t.trs.isEmpty with
   | true =>
    have hE' : t.trs = [] := List.isEmpty_iff.1 hE
    have e0 : pasT t i = (0, 0, 10) := by unfold pasT; rw [if_neg (by simpa using hv), if_neg (by rw [hB, hb]; decide), if_pos hE']
    (repeat' first|exact ap|refine aN ?_ ?_)
    refine (t47s 10 0).use [2] ?_ (by (repeat' first|exact fp|refine aN ?_ ?_)) rfl
    (repeat' first|exact ap|refine aN ?_ ?_)
    refine ⟨_, _, ⟨rfl, rfl⟩, ?_⟩
    rw [e0]
    exact ent_tau [0] ⟨by (repeat' first|exact fp|refine aN ?_ ?_), by (repeat' first|exact tm|refine aN ?_ ?_), rfl⟩
   | false =>
    have hE' : t.trs ≠ [] := fun e => by rw [e] at hE; cases hE
    obtain ⟨A, hA⟩ : ∃ A, (t.trs.any fun x => over x i o) = A := ⟨_, rfl⟩
    obtain ⟨N, hN⟩ : ∃ A, (t.trs.any fun x => !over x i o) = A := ⟨_, rfl⟩
    have hAll : (t.trs.all fun x => over x i o) = !N := by rw [← hN, ← List.not_all_eq_any_not, Bool.not_not]
    have pk := pow_int o
    have p2 : 2 ^ o < 2 ^ 5 := Nat.pow_lt_pow_right (by omega) (by omega)
    have pa : -9223372036854775808 ≤ (1 : Int) * 2 ^ ((o : Nat) : Int).toNat := by rw [pk]; exact Int.le_trans (by decide) (Int.natCast_nonneg _)
    have pb : (1 : Int) * 2 ^ ((o : Nat) : Int).toNat ≤ 9223372036854775807 := by rw [pk]; omega
    have h64 : ((o : Nat) : Int) < ((IntKind.bits .i64 : Nat) : Int) := lt64 (by omega)
    have hAo : (fun o => t.trs.any fun x => over x i o) o = A := hA
    have hNo : (fun o => t.trs.all fun x => over x i o) o = !N := hAll
    rw [hA, hN]
    cases A <;> cases N
    ·all_goals (repeat' first|exact ap|refine aN ?_ ?_)
     all_goals first | exact gd | skip
     all_goals intro h1
     all_goals first | exact absurd h1 (by decide) | (cases h1; done) | skip
     (repeat' first|exact ap|refine aN ?_ ?_)
     all_goals first | exact om | skip
     all_goals first | exact pa | exact pb | exact u0 h64 | skip
     all_goals (repeat' first|exact ap|refine aN ?_ ?_)
     all_goals first | exact gd | skip
     all_goals intro h2
     all_goals first | exact absurd h2 (by decide) | (cases h2; done) | skip
     (repeat' first|exact ap|refine aN ?_ ?_)
     all_goals first | exact om | skip
     all_goals first | exact pa | exact pb | exact u0 h64 | skip
     have hf := unF (A := ((maskN (fun o => t.trs.all fun x => over x i o) o : Nat) : Int)) rfl pk
     refine (t62 (maskN (fun o => t.trs.all fun x => over x i o) o) (2 ^ o) (Nat.lt_trans (maskN_lt _ o) (Nat.lt_trans p2 (by decide))) (Nat.lt_trans p2 (by decide))).use [6] ?_ (by (first | exact ⟨⟨rfl, rfl, hf⟩, trivial⟩ | exact ⟨⟨rfl, rfl, fun k hk => hf k hk⟩, trivial⟩)) rfl
     (repeat' first|exact ap|refine aN ?_ ?_)
     all_goals first | exact om | skip
     refine ⟨o + 1, ⟨hlt', fun _ => hE'⟩, by omega, ?_⟩
     rw [mask_no (p := fun o => t.trs.any fun x => over x i o) hAo, mask_yes (p := fun o => t.trs.all fun x => over x i o) hNo]
     exact ent_tau [0, 1, 2, 3, 4] ⟨by (repeat' first|exact fp|refine aN ?_ ?_), by (repeat' first|exact tm|refine aN ?_ ?_), rfl⟩
    ·all_goals (repeat' first|exact ap|refine aN ?_ ?_)
     all_goals first | exact gd | skip
     all_goals intro h1
     all_goals first | exact absurd h1 (by decide) | (cases h1; done) | skip
     (repeat' first|exact ap|refine aN ?_ ?_)
     all_goals first | exact om | skip
     all_goals first | exact pa | exact pb | exact u0 h64 | skip
     all_goals (repeat' first|exact ap|refine aN ?_ ?_)
     all_goals first | exact gd | skip
     all_goals intro h2
     all_goals first | exact absurd h2 (by decide) | (cases h2; done) | skip
     (repeat' first|exact ap|refine aN ?_ ?_)
     all_goals first | exact om | skip
     all_goals first | exact pa | exact pb | exact u0 h64 | skip
     refine ⟨o + 1, ⟨hlt', fun _ => hE'⟩, by omega, ?_⟩
     rw [mask_no (p := fun o => t.trs.any fun x => over x i o) hAo, mask_no (p := fun o => t.trs.all fun x => over x i o) hNo]
     exact ent_tau [0, 1, 2, 3, 4] ⟨by (repeat' first|exact fp|refine aN ?_ ?_), by (repeat' first|exact tm|refine aN ?_ ?_), rfl⟩
    ·all_goals (repeat' first|exact ap|refine aN ?_ ?_)
     all_goals first | exact gd | skip
     all_goals intro h1
     all_goals first | exact absurd h1 (by decide) | (cases h1; done) | skip
     (repeat' first|exact ap|refine aN ?_ ?_)
     all_goals first | exact om | skip
     all_goals first | exact pa | exact pb | exact u0 h64 | skip
     have hf := unF (A := ((maskN (fun o => t.trs.any fun x => over x i o) o : Nat) : Int)) rfl pk
     refine (t62 (maskN (fun o => t.trs.any fun x => over x i o) o) (2 ^ o) (Nat.lt_trans (maskN_lt _ o) (Nat.lt_trans p2 (by decide))) (Nat.lt_trans p2 (by decide))).use [6] ?_ (by (first | exact ⟨⟨rfl, rfl, hf⟩, trivial⟩ | exact ⟨⟨rfl, rfl, fun k hk => hf k hk⟩, trivial⟩)) rfl
     (repeat' first|exact ap|refine aN ?_ ?_)
     all_goals first | exact om | skip
     all_goals first | exact pa | exact pb | exact u0 h64 | skip
     all_goals (repeat' first|exact ap|refine aN ?_ ?_)
     all_goals first | exact gd | skip
     all_goals intro h2
     all_goals first | exact absurd h2 (by decide) | (cases h2; done) | skip
     (repeat' first|exact ap|refine aN ?_ ?_)
     all_goals first | exact om | skip
     all_goals first | exact pa | exact pb | exact u0 h64 | skip
     have hf := unF (A := ((maskN (fun o => t.trs.all fun x => over x i o) o : Nat) : Int)) rfl pk
     refine (t62 (maskN (fun o => t.trs.all fun x => over x i o) o) (2 ^ o) (Nat.lt_trans (maskN_lt _ o) (Nat.lt_trans p2 (by decide))) (Nat.lt_trans p2 (by decide))).use [7] ?_ (by (first | exact ⟨⟨rfl, rfl, hf⟩, trivial⟩ | exact ⟨⟨rfl, rfl, fun k hk => hf k hk⟩, trivial⟩)) rfl
     (repeat' first|exact ap|refine aN ?_ ?_)
     all_goals first | exact om | skip
     refine ⟨o + 1, ⟨hlt', fun _ => hE'⟩, by omega, ?_⟩
     rw [mask_yes (p := fun o => t.trs.any fun x => over x i o) hAo, mask_yes (p := fun o => t.trs.all fun x => over x i o) hNo]
     exact ent_tau [0, 1, 2, 3, 4] ⟨by (repeat' first|exact fp|refine aN ?_ ?_), by (repeat' first|exact tm|refine aN ?_ ?_), rfl⟩
    ·all_goals (repeat' first|exact ap|refine aN ?_ ?_)
     all_goals first | exact gd | skip
     all_goals intro h1
     all_goals first | exact absurd h1 (by decide) | (cases h1; done) | skip
     (repeat' first|exact ap|refine aN ?_ ?_)
     all_goals first | exact om | skip
     all_goals first | exact pa | exact pb | exact u0 h64 | skip
     have hf := unF (A := ((maskN (fun o => t.trs.any fun x => over x i o) o : Nat) : Int)) rfl pk
     refine (t62 (maskN (fun o => t.trs.any fun x => over x i o) o) (2 ^ o) (Nat.lt_trans (maskN_lt _ o) (Nat.lt_trans p2 (by decide))) (Nat.lt_trans p2 (by decide))).use [6] ?_ (by (first | exact ⟨⟨rfl, rfl, hf⟩, trivial⟩ | exact ⟨⟨rfl, rfl, fun k hk => hf k hk⟩, trivial⟩)) rfl
     (repeat' first|exact ap|refine aN ?_ ?_)
     all_goals first | exact om | skip
     all_goals first | exact pa | exact pb | exact u0 h64 | skip
     all_goals (repeat' first|exact ap|refine aN ?_ ?_)
     all_goals first | exact gd | skip
     all_goals intro h2
     all_goals first | exact absurd h2 (by decide) | (cases h2; done) | skip
     (repeat' first|exact ap|refine aN ?_ ?_)
     all_goals first | exact om | skip
     all_goals first | exact pa | exact pb | exact u0 h64 | skip
     refine ⟨o + 1, ⟨hlt', fun _ => hE'⟩, by omega, ?_⟩
     rw [mask_yes (p := fun o => t.trs.any fun x => over x i o) hAo, mask_no (p := fun o => t.trs.all fun x => over x i o) hNo]
     exact ent_tau [0, 1, 2, 3, 4] ⟨by (repeat' first|exact fp|refine aN ?_ ?_), by (repeat' first|exact tm|refine aN ?_ ?_), rfl⟩
  ·have e : o = t.n := by
    have := of_decide_eq_false hlt
    omega
   subst e
   have e0 : pasT t i = (((t.surely i : Nat) : Int), ((t.perhaps i : Nat) : Int), 0) := by unfold pasT; rw [if_neg (by simpa using hv), if_neg (by rw [hB, hb]; decide), if_neg (hne h0), Int.toNat_natCast]
   (repeat' first|exact ap|refine aN ?_ ?_)
   refine (t47n 0).use [2] ?_ (by (repeat' first|exact fp|refine aN ?_ ?_)) rfl
   (repeat' first|exact ap|refine aN ?_ ?_)
   refine ⟨_, _, ⟨rfl, rfl⟩, ?_⟩
   rw [e0]
   exact ent_tau [0] ⟨by (repeat' first|exact fp|refine aN ?_ ?_), by (repeat' first|exact tm|refine aN ?_ ?_), rfl⟩
 ·refine ⟨ownB_ok rfl, ?_⟩
  have e0 : pasT t k = (0, 0, 1) := by unfold pasT; rw [if_pos hv]
  (repeat' first|exact ap|refine aN ?_ ?_)
  refine (t47s 1 0).use [2] ?_ (by (repeat' first|exact fp|refine aN ?_ ?_)) rfl
  (repeat' first|exact ap|refine aN ?_ ?_)
  refine ⟨_, _, ⟨rfl, rfl⟩, ?_⟩
  rw [e0]
  exact ent_tau [0] ⟨by (repeat' first|exact fp|refine aN ?_ ?_), by (repeat' first|exact tm|refine aN ?_ ?_), rfl⟩
 ·refine ⟨ownB_ok rfl, ?_⟩
  have e0 : pasT t k = (0, 0, 2) := by unfold pasT; rw [if_neg (by simpa using hv), if_pos (by rw [hB]; exact hb)]
  (repeat' first|exact ap|refine aN ?_ ?_)
  refine (t47s 2 0).use [2] ?_ (by (repeat' first|exact fp|refine aN ?_ ?_)) rfl
  (repeat' first|exact ap|refine aN ?_ ?_)
  refine ⟨_, _, ⟨rfl, rfl⟩, ?_⟩
  rw [e0]
  exact ent_tau [0] ⟨by (repeat' first|exact fp|refine aN ?_ ?_), by (repeat' first|exact tm|refine aN ?_ ?_), rfl⟩
end Go.Proofs.Ytioajogaghgipaa
