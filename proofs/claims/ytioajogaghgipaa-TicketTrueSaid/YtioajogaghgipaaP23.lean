/-
  Parts: B16b, B17b, B16r, B17r, B26, B21.
-/
import Derived.Test.YtioajogaghgipaaP20
import Derived.Test.YtioajogaghgipaaP21
set_option linter.unusedVariables false
/-
 The spans of what is measured, of all truths (b).
-/
namespace Go.Proofs.Ytioajogaghgipaa
open Go Go.Sy Tic
set_option linter.unusedSimpArgs false
set_option maxRecDepth 100000
set_option maxHeartbeats 4000000
attribute [local irreducible] CallP CodeP Ent YieldP
set_option maxHeartbeats 16000000

noncomputable def P50b (t : TK) (a : Bool) (g : Ms) (st : LoopState) (p : Option Code) : List (Nat × SObj) := [(4, L50 st p), (5, .cells [.slice 7 4 0 1 1]), (6, .cells [.bool a]), (7, .arr 4 1 1 (mrow (.fn (.func 82) [] [.ptr 8 0]) g)), (8, .cells (tb t))]
noncomputable def C50b (t : TK) (g : Ms) (b : Bool) : OB := packR (P50b t g.1 g (bif b then .ready else .done) (bif b then none else some .ret))
noncomputable def HU50b (t : TK) (bo : Bool) (co : Nat) (a : Bool) (g : Ms) (st : LoopState) (p : Option Code) : SHeap :=
 [some (.roa 5 t.n (TF t)), some (.roc [.int .i64 t.huts, .osl t.b 0 5 t.n t.cap, .osl bo 2 1 t.n co]), some (.roa 1 t.n (rowO (ord t))), some (.roc [.ptr 1 0]), some (L50 st p), some (.cells [.slice 7 4 0 1 1]), some (.cells [.bool a]), some (.arr 4 1 1 (mrow (.fn (.func 82) [] [.ptr 8 0]) g)), some (.cells (tb t)), some .dead, some .dead, some .dead, some .dead]
theorem up50b (t : TK) (bo : Bool) (co : Nat) (a : Bool) (g : Ms) (x : Tru) : Ent 13 ⟨argT [.agg (trV x)], HI t bo co (packR (P50b t a g .ready none)), []⟩ ⟨argT [.agg (trV x)], HU50b t bo co a g .ready none, []⟩ :=
 entUnpack (n := 13) (T := argT [.agg (trV x)]) (H := HI t bo co (packR (P50b t a g .ready none))) (D := []) NS (P50b t a g .ready none) 4 rfl rfl rfl ⟨trivial, trivial, trivial, trivial, trivial, trivial⟩
theorem pk50b (t : TK) (bo : Bool) (co : Nat) (a : Bool) (g : Ms) (T : Tm) : Ent 13 ⟨T, HU50b t bo co a g .ready none, []⟩ ⟨T, HI t bo co (packR (P50b t a g .ready none)), []⟩ :=
 entPack (n := 13) (T := T) (H := HU50b t bo co a g .ready none) (D := []) NS (P50b t a g .ready none) 4 (by (repeat' first|exact fp|refine aN ?_ ?_)) rfl rfl
theorem y50b (t : TK) (hv : t.Valid) (bo : Bool) (co : Nat) (g : Ms) (x : Tru) (hx : x ∈ t.trs) :
  YieldP Try.prog 4 [.agg (trV x)] (HI t bo co (C50b t g true)) (Ret (.bool (stepM (fun (g : Ms) x => seeS g (t.mostF x t.n)) g x).2) (HI t bo co (C50b t (stepM (fun (g : Ms) x => seeS g (t.mostF x t.n)) g x).1 (stepM (fun (g : Ms) x => seeS g (t.mostF x t.n)) g x).2))) := by
 have hb := trs_bnd2 hv hx
 have c := t101b t hv x (fun i hi => (hb i hi).2) g
 obtain ⟨N, hN⟩ : ∃ N, t.mostF x t.n = N := ⟨_, rfl⟩
 rw [hN] at c
 have hpk := pk50b t bo co true (seeS g N)
 have hC : C50b t (seeS g N) true = packR (P50b t true (seeS g N) .ready none) := by
  obtain ⟨s, lo, hi⟩ := g
  cases s <;> rfl
 refine YieldP.pre (up50b t bo co g.1 g x) (show (4 : Nat) < 13 by decide) ?_
 simp only [stepM]
 rw [hN, hC]
 refine YieldP.ent (roundP E_ok rfl rfl fun l => ?_)
 (repeat' first|exact ap|refine aN ?_ ?_)
 refine loopP E_ok [5, 8, 9, 34] (fun j : Nat => [(35, .int .i64 j)]) (fun j _ => match j with
   | 0 => HU50b t bo co true g .busy none ++ [some (.cells (trV x))]
   | _ => HU50b t bo co true (seeS g N) .busy none ++ [some (.cells (trV x))]) (fun j => j ≤ 1) (fun j => 1 - j) 0 (Nat.zero_le _) ?_ ?_
 ·exact ent_tau [0, 1, 2, 3, 4, 5, 6, 7, 8, 9, 10, 11, 12, 13] ⟨by (repeat' first|exact fp|refine aN ?_ ?_), by (repeat' first|exact tm|refine aN ?_ ?_), rfl⟩
 rintro j hj
 have hj2 : j = 0 ∨ j = 1 := by omega
 rcases hj2 with rfl | rfl
 ·all_goals (repeat' first|exact ap|refine aN ?_ ?_)
  all_goals first | exact gd | skip
  all_goals intro h1
  all_goals first | exact absurd h1 (by decide) | (cases h1; done) | skip
  (repeat' first|exact ap|refine aN ?_ ?_)
  all_goals first | exact om | skip
  refine drawP E_ok [5, 13] pl50_14 (by kernel_rfl) ?_
  (repeat' first|exact ap|refine aN ?_ ?_)
  all_goals first | exact om | skip
  refine c.use [7, 0, 8] ?_ (by (repeat' first|exact fp|refine aN ?_ ?_)) rfl
  (repeat' first|exact ap|refine aN ?_ ?_)
  all_goals first | exact om | skip
  refine ⟨1, by omega, by omega, ?_⟩
  exact ent_tau [0, 1, 2, 3, 4, 5, 6, 7, 8, 9, 10, 11, 12, 13] ⟨by (repeat' first|exact fp|refine aN ?_ ?_), by (repeat' first|exact tm|refine aN ?_ ?_), rfl⟩
 ·all_goals (repeat' first|exact ap|refine aN ?_ ?_)
  all_goals first | exact gd | skip
  all_goals intro h1
  all_goals first | exact absurd h1 (by decide) | (cases h1; done) | skip
  (repeat' first|exact ap|refine aN ?_ ?_)
  all_goals first | exact om | skip
  refine ⟨_, _, ⟨rfl, rfl⟩, ?_⟩
  refine Ent.trans ?_ (hpk _)
  exact ent_tau [0, 1, 2, 3, 4, 5, 6, 7, 8, 9, 10, 11, 12] ⟨by (repeat' first|exact fp|refine aN ?_ ?_), by (repeat' first|exact tm|refine aN ?_ ?_), rfl⟩
noncomputable def G50b (t : TK) (bo : Bool) (co : Nat) (a : Bool) (g : Ms) (st : LoopState) (p : Option Code) : SHeap :=
 HQ t bo co ++ [some (.cells [.slice 5 4 0 1 1]), some (.cells [.bool a]), some (.arr 4 1 1 (mrow (.fn (.func 82) [] [.ptr 6 0]) g)), some (.cells (tb t)), some (.roc [.ptr 1 0]), some (L50h st p)]
def S50b : List Nat := [0, 1, 2, 7, 8, 3, 4, 5, 6, 3, 3, 3, 3]
noncomputable def GP50b (t : TK) (bo : Bool) (co : Nat) (ob : OB) : SHeap :=
 HQ t bo co ++ [some .dead, some .dead, some .dead, some .dead, some (.roc [.ptr 1 0]), some (.pack S50b ob)]
theorem r50b (t : TK) (hv : t.Valid) (bo : Bool) (co : Nat) (hbo : OrdV t bo co) : CallP Try.prog 103 [.yld 8, .ptr 7 0] (G50b t bo co false (false, 0, 0) .ready none) (Ret (.tup []) (G50b t bo co (msOf (t.trs.map fun x => t.mostF x t.n)).1 (msOf (t.trs.map fun x => t.mostF x t.n)) .ready none)) := by
 have c := t103 t hv bo co hbo (stepM (fun (g : Ms) x => seeS g (t.mostF x t.n))) (C50b t) (fun g x hx => y50b t hv bo co g x hx) (false, 0, 0)
 rw [run_M, fold_ms (fun x => t.mostF x t.n), ms_trs (fun x => t.mostF x t.n)] at c
 obtain ⟨R, hR⟩ : ∃ R : Ms, msOf (t.trs.map fun x => t.mostF x t.n) = R := ⟨_, rfl⟩
 rw [hR] at c ⊢
 simp only at c
 have h1 : CallP Try.prog 103 [.yld 8, .ptr 7 0] (GP50b t bo co (C50b t (false, 0, 0) true)) (Ret (.tup []) (GP50b t bo co (C50b t R true))) := by
  refine c.use S50b ?_ (by (repeat' first|exact fp|refine aN ?_ ?_)) rfl
  exact ⟨rfl, rfl⟩
 refine CallP.pre (entPack (n := 9) (T := argT [.yld 8, .ptr 7 0]) (H := G50b t bo co false (false, 0, 0) .ready none) (D := []) S50b (P50b t false (false, 0, 0) .ready none) 8 (by (repeat' first|exact fp|refine aN ?_ ?_)) rfl rfl) ?_
 refine CallP.entR h1 ?_
 exact entUnpack (n := 9) (T := [some (none, .tup [])]) (H := GP50b t bo co (C50b t R true)) (D := []) S50b (P50b t R.1 R .ready none) 8 rfl rfl rfl ⟨trivial, trivial, trivial, trivial, trivial, trivial⟩
def row50b : Nat → List SV := fun _ => [.fn (.func 82) [] [.ptr 4 0]]
def spn50b (t : TK) : Nat → List SV := fun _ => [.int .i64 (hull (t.trs.map fun x => t.mostF x t.n)).1, .int .i64 (hull (t.trs.map fun x => t.mostF x t.n)).2]
def HS50b (t : TK) (bo : Bool) (co : Nat) : SHeap := HQ t bo co ++ [some (.roa 1 1 row50b), some (.cells (tb t))]
def HD50b (t : TK) (bo : Bool) (co : Nat) : SHeap := HQ t bo co ++ [some .dead, some .dead]
def K50b (t : TK) (bo : Bool) (co : Nat) : CE → SHeap → Prop := fun ce h' =>
 (t.trs = [] ∧ ce = .panic (panE 10) ∧ h' = HD50b t bo co) ∨ (t.trs ≠ [] ∧ ∃ c, 1 ≤ c ∧ ce = .ret (.slice 5 2 0 1 c) ∧ h' = HD50b t bo co ++ [some (.arr 2 1 c (spn50b t))])
theorem t50b (t : TK) (hv : t.Valid) (bo : Bool) (co : Nat) (hbo : OrdV t bo co) : CallP Try.prog 50 [.ptr 1 0, .slice 3 1 0 1 1] (HS50b t bo co) (K50b t bo co) := by
 have c := r50b t hv bo co hbo
 have hR0 : (msOf (t.trs.map fun x => t.mostF x t.n) = (false, 0, 0) ∧ t.trs = []) ∨ (t.trs ≠ [] ∧ msOf (t.trs.map fun x => t.mostF x t.n) = (true, (hull (t.trs.map fun x => t.mostF x t.n)).1, (hull (t.trs.map fun x => t.mostF x t.n)).2)) := by
  cases hT : t.trs with
  | nil => exact .inl ⟨rfl, rfl⟩
  | cons x l => exact .inr ⟨List.cons_ne_nil _ _, rfl⟩
 obtain ⟨R, hR⟩ : ∃ R : Ms, msOf (t.trs.map fun x => t.mostF x t.n) = R := ⟨_, rfl⟩
 rw [hR] at c hR0
 unfold K50b spn50b
 obtain ⟨u, hu⟩ : ∃ u : Int × Int, hull (t.trs.map fun x => t.mostF x t.n) = u := ⟨_, rfl⟩
 rw [hu] at hR0 ⊢
 have hcl : R.1 = true ∨ R.1 = false := by cases R.1 <;> simp
 refine callMK (E := E) E_ok Try.func50 rfl ?_
 (repeat' first|exact ap|refine aN ?_ ?_)
 all_goals first | exact om | skip
 all_goals first | (show ((ti134.bytes : Nat) : Int) * ((1 : Nat) : Int) ≤ _; decide) | skip
 refine loopP E_ok [0, 5, 17, 18] (fun j : Nat => [(19, .int .i64 j)]) (fun j _ => match j with
   | 0 => HS50b t bo co ++ [some (.arr 4 1 1 (mrow (.fnil) (false, 0, 0))), some (.cells [.slice 5 4 0 1 1])]
   | _ => HS50b t bo co ++ [some (.arr 4 1 1 (mrow (.fn (.func 82) [] [.ptr 4 0]) (false, 0, 0))), some (.cells [.slice 5 4 0 1 1])]) (fun j => j ≤ 1) (fun j => 1 - j) 0 (Nat.zero_le _) ?_ ?_
 ·refine ent_tau [0, 1, 2, 3, 4, 5, 6] ⟨?_, by (repeat' first|exact tm|refine aN ?_ ?_), rfl⟩
  (repeat' first|exact fp|refine aN ?_ ?_)
  all_goals exact one1' rfl
 rintro j hj
 have hj2 : j = 0 ∨ j = 1 := by omega
 rcases hj2 with rfl | rfl
 ·all_goals (repeat' first|exact ap|refine aN ?_ ?_)
  all_goals first | exact gd | skip
  all_goals intro h1
  all_goals first | exact absurd h1 (by decide) | (cases h1; done) | skip
  (repeat' first|exact ap|refine aN ?_ ?_)
  all_goals first | exact om | skip
  refine ⟨1, by omega, by omega, ?_⟩
  refine ent_tau [0, 1, 2, 3, 4, 5, 6] ⟨?_, by (repeat' first|exact tm|refine aN ?_ ?_), rfl⟩
  (repeat' first|exact fp|refine aN ?_ ?_)
  all_goals exact one1' rfl
 ·all_goals (repeat' first|exact ap|refine aN ?_ ?_)
  all_goals first | exact gd | skip
  all_goals intro h1
  all_goals first | exact absurd h1 (by decide) | (cases h1; done) | skip
  (repeat' first|exact ap|refine aN ?_ ?_)
  all_goals first | exact om | skip
  refine (t67o t bo co).use [0, 1, 2] ?_ (by (repeat' first|exact fp|refine aN ?_ ?_)) rfl
  (repeat' first|exact ap|refine aN ?_ ?_)
  refine rangeP E_ok rfl rfl ?_
  refine c.use [0, 1, 2, 6, 7, 5, 4, 8, 10] ?_ (by (repeat' first|exact fp|refine aN ?_ ?_)) rfl
  refine ⟨by decide, ?_⟩
  rcases hR0 with ⟨rfl, hne⟩ | ⟨hne, rfl⟩
  ·(repeat' first|exact ap|refine aN ?_ ?_)
   all_goals first | exact om | skip
   refine must (fun hb => ?_) (fun hb => ?_)
   ·exact absurd hb (by decide)
   ·(repeat' first|exact ap|refine aN ?_ ?_)
    ·exact fun o h => h
    refine ⟨_, _, .inl ⟨hne, rfl, rfl⟩, ?_⟩
    exact ent_tau [0, 1, 2, 3, 4] ⟨by (repeat' first|exact fp|refine aN ?_ ?_), by (repeat' first|exact tm|refine aN ?_ ?_), rfl⟩
  ·(repeat' first|exact ap|refine aN ?_ ?_)
   all_goals first | exact om | skip
   refine must (fun hb => ?_) (fun hb => ?_)
   ·(repeat' first|exact ap|refine aN ?_ ?_)
    all_goals first | exact om | skip
    refine loopP E_ok [46, 47] (fun g : Nat × Nat => [(48, .int .i64 g.1), (11, match g.1 with | 0 => .snil | _ => .slice 11 2 0 g.1 g.2)]) (fun g H => match g.1 with
      | 0 => HQ t bo co ++ [some (.roa 1 1 row50b), some .dead, some (.arr 4 1 1 (mrow (.fn (.func 82) [] [.ptr 4 0]) (true, u.1, u.2))), some (.cells [.slice 5 4 0 1 1]), some .dead, some .dead, some (.obj isDfr), some .dead]
      | _ => HQ t bo co ++ [some (.roa 1 1 row50b), some .dead, some (.arr 4 1 1 (mrow (.fn (.func 82) [] [.ptr 4 0]) (true, u.1, u.2))), some (.cells [.slice 5 4 0 1 1]), some .dead, some .dead, some (.obj isDfr), some .dead, some (.arr 2 1 g.2 (fun _ => [.int .i64 u.1, .int .i64 u.2]))]) (fun g => g.1 ≤ 1 ∧ (0 < g.1 → g.1 ≤ g.2 ∧ g.2 ≤ 9223372036854775807)) (fun g => 1 - g.1) (0, 0) ⟨Nat.zero_le _, fun h => absurd h (Nat.lt_irrefl 0)⟩ ?_ ?_
    ·refine ent_tau [0, 1, 2, 3, 4, 5, 6, 7, 8, 9, 10] ⟨?_, by (repeat' first|exact tm|refine aN ?_ ?_), rfl⟩
     (repeat' first|exact fp|refine aN ?_ ?_)
     exact fun o h => h
    rintro ⟨j, c⟩ ⟨hj, hjc⟩
    simp only at hj hjc
    have hj2 : j = 0 ∨ j = 1 := by omega
    rcases hj2 with rfl | rfl
    ·all_goals (repeat' first|exact ap|refine aN ?_ ?_)
     all_goals first | exact gd | skip
     all_goals intro h1
     all_goals first | exact absurd h1 (by decide) | (cases h1; done) | skip
     (repeat' first|exact ap|refine aN ?_ ?_)
     all_goals first | exact om | skip
     all_goals first | exact (hjc (by omega)).2 | (show 1 * ti28.bytes ≤ _; decide) | (show 1 * ti28.bytes ≤ _; decide) | skip
     intro c' hc1 hc2
     (repeat' first|exact ap|refine aN ?_ ?_)
     all_goals first | exact om | skip
     refine ⟨(1, c'), ⟨by simp only; omega, fun _ => ⟨hc1, hc2⟩⟩, by simp only; omega, ?_⟩
     refine ent_tau [0, 1, 2, 3, 4, 5, 6, 7, 8, 9, 10, 13] ⟨?_, by (repeat' first|exact tm|refine aN ?_ ?_), rfl⟩
     (repeat' first|exact fp|refine aN ?_ ?_)
     all_goals first | exact fun o h => h | skip
     all_goals exact one1' rfl
    ·all_goals (repeat' first|exact ap|refine aN ?_ ?_)
     all_goals first | exact gd | skip
     all_goals intro h1
     all_goals first | exact absurd h1 (by decide) | (cases h1; done) | skip
     (repeat' first|exact ap|refine aN ?_ ?_)
     all_goals first | exact om | skip
     ·exact fun o h => h
     refine ⟨_, _, .inr ⟨hne, c, (hjc (by omega)).1, rfl, rfl⟩, ?_⟩
     refine ent_tau [0, 1, 2, 3, 4, 11] ⟨?_, by (repeat' first|exact tm|refine aN ?_ ?_), rfl⟩
     (repeat' first|exact fp|refine aN ?_ ?_)
   ·cases hb
end Go.Proofs.Ytioajogaghgipaa
/-
 Contract: ticket.Busy.
-/
namespace Go.Proofs.Ytioajogaghgipaa
open Go Go.Sy Tic
set_option linter.unusedSimpArgs false
set_option maxRecDepth 100000
set_option maxHeartbeats 4000000
attribute [local irreducible] CallP CodeP Ent YieldP
set_option maxHeartbeats 16000000

def K50ba (t : TK) : CE → SHeap → Prop := fun ce h' =>
 (t.trs = [] ∧ ce = .panic (panE 10) ∧ h' = [some (.roa 5 t.n (TF t)), some .dead, some .dead, some .dead, some .dead]) ∨ (t.trs ≠ [] ∧ ∃ c, 1 ≤ c ∧ ce = .ret (.slice 5 2 0 1 c) ∧ h' = [some (.roa 5 t.n (TF t)), some .dead, some .dead, some .dead, some .dead, some (.arr 2 1 c (spn50b t))])
def K50bz (t : TK) : CE → SHeap → Prop := fun ce h' =>
 ∃ c, 1 ≤ c ∧ ce = .ret (.slice 4 2 0 1 c) ∧ h' = [some (.roa 5 t.n (TF t)), some .dead, some .dead, some .dead, some (.arr 2 1 c (spn50b t))]
def rowzb : Nat → List SV := fun _ => [.fn (.func 82) [] [.ptr 3 0]]
theorem t50ba (t : TK) (hv : t.Valid) (h0 : 0 < t.n) (c : Nat) (hc : t.n ≤ c) : CallP Try.prog 50 [.ptr 1 0, .slice 3 1 0 1 1] (HA t c ++ [some (.roa 1 1 row50b), some (.cells (tb t))]) (K50ba t) := by
 have h := t50b t hv true c (.inr ⟨h0, rfl, hc⟩)
 refine CallP.ent (CallP.pre (h' := HS50b t true c) (Ent.trans (entCells (i := 1) (cs' := [.int .i64 t.huts, .osl t.b 0 5 t.n t.cap, .osl true 2 1 t.n c]) rfl (fun η => by simp [denL, den])) ?_) (h.mono fun ce h1 hk => ?_))
 ·exact ent_tau [0, 1, 2, 3, 4] ⟨by (repeat' first|exact fp|refine aN ?_ ?_), by (repeat' first|exact tm|refine aN ?_ ?_), rfl⟩
 ·rcases hk with ⟨hne, rfl, rfl⟩ | ⟨hne, c', hc', rfl, rfl⟩
  ·refine ⟨_, _, .inl ⟨hne, rfl, rfl⟩, ?_⟩
   show Ent 5 ⟨[some (none, panE 10)], _, []⟩ ⟨[some (none, panE 10)], _, []⟩
   exact ent_tau [0, 1, 2, 3, 4] ⟨by (repeat' first|exact fp|refine aN ?_ ?_), by (repeat' first|exact tm|refine aN ?_ ?_), rfl⟩
  ·refine ⟨_, _, .inr ⟨hne, c', hc', rfl, rfl⟩, ?_⟩
   show Ent 5 ⟨[some (none, .slice 5 2 0 1 c')], _, []⟩ ⟨[some (none, .slice 5 2 0 1 c')], _, []⟩
   exact ent_tau [0, 1, 2, 3, 4, 5] ⟨by (repeat' first|exact fp|refine aN ?_ ?_), by (repeat' first|exact tm|refine aN ?_ ?_), rfl⟩
theorem t50bz (t : TK) (hv : t.Valid) (h0 : t.n = 0) : CallP Try.prog 50 [.ptr 1 0, .slice 2 1 0 1 1] (HZ t ++ [some (.roa 1 1 rowzb), some (.cells (tb t))]) (K50bz t) := by
 have h := t50b t hv false 0 (.inl ⟨h0, rfl, rfl⟩)
 have hn := valid0 hv h0
 have hal : Ent 4 ⟨argT [.ptr 1 0, .slice 2 1 0 1 1], HZ t ++ [some (.roa 1 1 rowzb), some (.cells (tb t))], []⟩ ⟨argT [.ptr 1 0, .slice 2 1 0 1 1], [some (.roa 5 t.n (TF t)), some (.cells [.int .i64 t.huts, .osl t.b 0 5 t.n t.cap, .osl false 4 1 t.n 0]), some (.roa 1 1 rowzb), some (.cells (tb t)), some (.roa 1 t.n (rowO (ord t)))], []⟩ := by
  unfold HZ tb
  rw [h0]
  refine (entCells (i := 1) (cs' := [.int .i64 t.huts, .osl t.b 0 5 0 t.cap, .osl false 4 1 0 0]) rfl (fun η => by simp [denL, den])).trans ?_
  exact entAlias (i := 0) rfl 1 (rowO (ord t))
 refine CallP.ent (CallP.pre hal (CallP.frameH h [0, 1, 4, 2, 3] (by (repeat' first|exact fp|refine aN ?_ ?_)) rfl ?_))
 rintro ce h' (⟨hne, rfl, rfl⟩ | ⟨hne, c', hc', rfl, rfl⟩)
 ·exact absurd hne hn
 ·refine ⟨rfl, ?_⟩
  refine ⟨_, _, ⟨c', hc', rfl, rfl⟩, ?_⟩
  exact ent_tau [0, 1, 2, 3, 5] ⟨by (repeat' first|exact fp|refine aN ?_ ?_), by (repeat' first|exact tm|refine aN ?_ ?_), rfl⟩
theorem t26 (t : TK) (hn : t.n ≤ 1000000) (hh : InR .i64 t.huts) : CallP Try.prog 26 [TA t] (TH t) (Ret (.tup [.agg [.int .i64 (spT t t.busy).1, .int .i64 (spT t t.busy).2.1], .int .i64 (spT t t.busy).2.2]) (TH t)) := by
 refine callD (E := E) E_ok Try.func26 rfl Try.func81 ⟨_, _, _, _, _, _, _, _, rfl, rfl, rfl⟩ rfl rfl ?_
 (repeat' first|exact ap|refine aN ?_ ?_)
 refine CallP.frame (t48 t true hn hh) [0] (by (repeat' first|exact fp|refine aN ?_ ?_)) (apartB_ok rfl) rfl ?_
 rintro ce h' (⟨hv, hb, h0, rfl, rfl⟩ | ⟨hv, hb, h0, c, hc, rfl, rfl⟩ | ⟨hv, rfl, rfl⟩ | ⟨hv, hb, rfl, rfl⟩)
 ·refine ⟨ownB_ok rfl, ?_⟩
  have e0 : spT t t.busy = ((t.busy).1, (t.busy).2, 0) := by unfold spT; rw [if_neg (by simpa using hv), if_neg (valid0 hv h0)]
  (repeat' first|exact ap|refine aN ?_ ?_)
  refine CallP.frame (t50bz t hv h0) [0, 4, 5, 1] (by (repeat' first|exact fp|refine aN ?_ ?_); all_goals exact one1' rfl) (apartB_ok rfl) rfl ?_
  rintro ce h' ⟨c', hc', rfl, rfl⟩
  refine ⟨ownB_ok rfl, ?_⟩
  (repeat' first|exact ap|refine aN ?_ ?_)
  all_goals first | exact om | skip
  refine (t47n 0).use [3] ?_ (by (repeat' first|exact fp|refine aN ?_ ?_)) rfl
  (repeat' first|exact ap|refine aN ?_ ?_)
  refine ⟨_, _, ⟨rfl, rfl⟩, ?_⟩
  rw [e0]
  exact ent_tau [0] ⟨by (repeat' first|exact fp|refine aN ?_ ?_), by (repeat' first|exact tm|refine aN ?_ ?_), rfl⟩
 ·refine ⟨ownB_ok rfl, ?_⟩
  (repeat' first|exact ap|refine aN ?_ ?_)
  refine CallP.frame (t50ba t hv h0 c hc.1) [0, 4, 5, 6, 1] (by (repeat' first|exact fp|refine aN ?_ ?_); all_goals exact one1' rfl) (apartB_ok rfl) rfl ?_
  rintro ce h' (⟨hne, rfl, rfl⟩ | ⟨hne, c', hc', rfl, rfl⟩)
  ·refine ⟨ownB_ok rfl, ?_⟩
   have e0 : spT t t.busy = (0, 0, 10) := by unfold spT; rw [if_neg (by simpa using hv), if_pos hne]
   (repeat' first|exact ap|refine aN ?_ ?_)
   refine (t47s 10 0).use [3] ?_ (by (repeat' first|exact fp|refine aN ?_ ?_)) rfl
   (repeat' first|exact ap|refine aN ?_ ?_)
   refine ⟨_, _, ⟨rfl, rfl⟩, ?_⟩
   rw [e0]
   exact ent_tau [0] ⟨by (repeat' first|exact fp|refine aN ?_ ?_), by (repeat' first|exact tm|refine aN ?_ ?_), rfl⟩
  ·refine ⟨ownB_ok rfl, ?_⟩
   have e0 : spT t t.busy = ((t.busy).1, (t.busy).2, 0) := by unfold spT; rw [if_neg (by simpa using hv), if_neg hne]
   (repeat' first|exact ap|refine aN ?_ ?_)
   all_goals first | exact om | skip
   refine (t47n 0).use [3] ?_ (by (repeat' first|exact fp|refine aN ?_ ?_)) rfl
   (repeat' first|exact ap|refine aN ?_ ?_)
   refine ⟨_, _, ⟨rfl, rfl⟩, ?_⟩
   rw [e0]
   exact ent_tau [0] ⟨by (repeat' first|exact fp|refine aN ?_ ?_), by (repeat' first|exact tm|refine aN ?_ ?_), rfl⟩
 ·refine ⟨ownB_ok rfl, ?_⟩
  have e0 : spT t t.busy = (0, 0, 1) := by unfold spT; rw [if_pos hv]
  (repeat' first|exact ap|refine aN ?_ ?_)
  refine (t47s 1 0).use [3] ?_ (by (repeat' first|exact fp|refine aN ?_ ?_)) rfl
  (repeat' first|exact ap|refine aN ?_ ?_)
  refine ⟨_, _, ⟨rfl, rfl⟩, ?_⟩
  rw [e0]
  exact ent_tau [0] ⟨by (repeat' first|exact fp|refine aN ?_ ?_), by (repeat' first|exact tm|refine aN ?_ ?_), rfl⟩
 ·cases hb
end Go.Proofs.Ytioajogaghgipaa
/-
 The spans of what is measured, of all truths (r).
-/
namespace Go.Proofs.Ytioajogaghgipaa
open Go Go.Sy Tic
set_option linter.unusedSimpArgs false
set_option maxRecDepth 100000
set_option maxHeartbeats 4000000
attribute [local irreducible] CallP CodeP Ent YieldP
set_option maxHeartbeats 16000000

noncomputable def P50r (t : TK) (a : Bool) (g : Ms) (st : LoopState) (p : Option Code) : List (Nat × SObj) := [(4, L50 st p), (5, .cells [.slice 7 4 0 1 1]), (6, .cells [.bool a]), (7, .arr 4 1 1 (mrow (.fn (.func 87) [] [.ptr 8 0, .ptr 9 0]) g)), (8, .cells (tb t)), (9, .cells [.ptr 1 0])]
noncomputable def C50r (t : TK) (g : Ms) (b : Bool) : OB := packR (P50r t g.1 g (bif b then .ready else .done) (bif b then none else some .ret))
noncomputable def HU50r (t : TK) (bo : Bool) (co : Nat) (a : Bool) (g : Ms) (st : LoopState) (p : Option Code) : SHeap :=
 [some (.roa 5 t.n (TF t)), some (.roc [.int .i64 t.huts, .osl t.b 0 5 t.n t.cap, .osl bo 2 1 t.n co]), some (.roa 1 t.n (rowO (ord t))), some (.roc [.ptr 1 0]), some (L50 st p), some (.cells [.slice 7 4 0 1 1]), some (.cells [.bool a]), some (.arr 4 1 1 (mrow (.fn (.func 87) [] [.ptr 8 0, .ptr 9 0]) g)), some (.cells (tb t)), some (.cells [.ptr 1 0]), some .dead, some .dead, some .dead]
theorem up50r (t : TK) (bo : Bool) (co : Nat) (a : Bool) (g : Ms) (x : Tru) : Ent 13 ⟨argT [.agg (trV x)], HI t bo co (packR (P50r t a g .ready none)), []⟩ ⟨argT [.agg (trV x)], HU50r t bo co a g .ready none, []⟩ :=
 entUnpack (n := 13) (T := argT [.agg (trV x)]) (H := HI t bo co (packR (P50r t a g .ready none))) (D := []) NS (P50r t a g .ready none) 4 rfl rfl rfl ⟨trivial, trivial, trivial, trivial, trivial, trivial, trivial⟩
theorem pk50r (t : TK) (bo : Bool) (co : Nat) (a : Bool) (g : Ms) (T : Tm) : Ent 13 ⟨T, HU50r t bo co a g .ready none, []⟩ ⟨T, HI t bo co (packR (P50r t a g .ready none)), []⟩ :=
 entPack (n := 13) (T := T) (H := HU50r t bo co a g .ready none) (D := []) NS (P50r t a g .ready none) 4 (by (repeat' first|exact fp|refine aN ?_ ?_)) rfl rfl
theorem y50r (t : TK) (hv : t.Valid) (bo : Bool) (co : Nat) (g : Ms) (x : Tru) (hx : x ∈ t.trs) :
  YieldP Try.prog 4 [.agg (trV x)] (HI t bo co (C50r t g true)) (Ret (.bool (stepM (fun (g : Ms) x => seeS g (((t.odd x : Nat) : Int))) g x).2) (HI t bo co (C50r t (stepM (fun (g : Ms) x => seeS g (((t.odd x : Nat) : Int))) g x).1 (stepM (fun (g : Ms) x => seeS g (((t.odd x : Nat) : Int))) g x).2))) := by
 have hb := trs_bnd2 hv hx
 have c := t101r t hv bo co x g
 obtain ⟨N, hN⟩ : ∃ N, ((t.odd x : Nat) : Int) = N := ⟨_, rfl⟩
 rw [hN] at c
 have hpk := pk50r t bo co true (seeS g N)
 have hC : C50r t (seeS g N) true = packR (P50r t true (seeS g N) .ready none) := by
  obtain ⟨s, lo, hi⟩ := g
  cases s <;> rfl
 refine YieldP.pre (up50r t bo co g.1 g x) (show (4 : Nat) < 13 by decide) ?_
 simp only [stepM]
 rw [hN, hC]
 refine YieldP.ent (roundP E_ok rfl rfl fun l => ?_)
 (repeat' first|exact ap|refine aN ?_ ?_)
 refine loopP E_ok [5, 8, 9, 34] (fun j : Nat => [(35, .int .i64 j)]) (fun j _ => match j with
   | 0 => HU50r t bo co true g .busy none ++ [some (.cells (trV x))]
   | _ => HU50r t bo co true (seeS g N) .busy none ++ [some (.cells (trV x))]) (fun j => j ≤ 1) (fun j => 1 - j) 0 (Nat.zero_le _) ?_ ?_
 ·exact ent_tau [0, 1, 2, 3, 4, 5, 6, 7, 8, 9, 10, 11, 12, 13] ⟨by (repeat' first|exact fp|refine aN ?_ ?_), by (repeat' first|exact tm|refine aN ?_ ?_), rfl⟩
 rintro j hj
 have hj2 : j = 0 ∨ j = 1 := by omega
 rcases hj2 with rfl | rfl
 ·all_goals (repeat' first|exact ap|refine aN ?_ ?_)
  all_goals first | exact gd | skip
  all_goals intro h1
  all_goals first | exact absurd h1 (by decide) | (cases h1; done) | skip
  (repeat' first|exact ap|refine aN ?_ ?_)
  all_goals first | exact om | skip
  refine drawP E_ok [5, 13] pl50_14 (by kernel_rfl) ?_
  (repeat' first|exact ap|refine aN ?_ ?_)
  all_goals first | exact om | skip
  refine c.use [7, 0, 1, 2, 8, 9] ?_ (by (repeat' first|exact fp|refine aN ?_ ?_)) rfl
  (repeat' first|exact ap|refine aN ?_ ?_)
  all_goals first | exact om | skip
  refine ⟨1, by omega, by omega, ?_⟩
  exact ent_tau [0, 1, 2, 3, 4, 5, 6, 7, 8, 9, 10, 11, 12, 13] ⟨by (repeat' first|exact fp|refine aN ?_ ?_), by (repeat' first|exact tm|refine aN ?_ ?_), rfl⟩
 ·all_goals (repeat' first|exact ap|refine aN ?_ ?_)
  all_goals first | exact gd | skip
  all_goals intro h1
  all_goals first | exact absurd h1 (by decide) | (cases h1; done) | skip
  (repeat' first|exact ap|refine aN ?_ ?_)
  all_goals first | exact om | skip
  refine ⟨_, _, ⟨rfl, rfl⟩, ?_⟩
  refine Ent.trans ?_ (hpk _)
  exact ent_tau [0, 1, 2, 3, 4, 5, 6, 7, 8, 9, 10, 11, 12] ⟨by (repeat' first|exact fp|refine aN ?_ ?_), by (repeat' first|exact tm|refine aN ?_ ?_), rfl⟩
noncomputable def G50r (t : TK) (bo : Bool) (co : Nat) (a : Bool) (g : Ms) (st : LoopState) (p : Option Code) : SHeap :=
 HQ t bo co ++ [some (.cells [.slice 5 4 0 1 1]), some (.cells [.bool a]), some (.arr 4 1 1 (mrow (.fn (.func 87) [] [.ptr 6 0, .ptr 7 0]) g)), some (.cells (tb t)), some (.cells [.ptr 1 0]), some (.roc [.ptr 1 0]), some (L50h st p)]
def S50r : List Nat := [0, 1, 2, 8, 9, 3, 4, 5, 6, 7, 3, 3, 3]
noncomputable def GP50r (t : TK) (bo : Bool) (co : Nat) (ob : OB) : SHeap :=
 HQ t bo co ++ [some .dead, some .dead, some .dead, some .dead, some .dead, some (.roc [.ptr 1 0]), some (.pack S50r ob)]
theorem r50r (t : TK) (hv : t.Valid) (bo : Bool) (co : Nat) (hbo : OrdV t bo co) : CallP Try.prog 103 [.yld 9, .ptr 8 0] (G50r t bo co false (false, 0, 0) .ready none) (Ret (.tup []) (G50r t bo co (msOf (t.trs.map fun x => ((t.odd x : Nat) : Int))).1 (msOf (t.trs.map fun x => ((t.odd x : Nat) : Int))) .ready none)) := by
 have c := t103 t hv bo co hbo (stepM (fun (g : Ms) x => seeS g (((t.odd x : Nat) : Int)))) (C50r t) (fun g x hx => y50r t hv bo co g x hx) (false, 0, 0)
 rw [run_M, fold_ms (fun x => ((t.odd x : Nat) : Int)), ms_trs (fun x => ((t.odd x : Nat) : Int))] at c
 obtain ⟨R, hR⟩ : ∃ R : Ms, msOf (t.trs.map fun x => ((t.odd x : Nat) : Int)) = R := ⟨_, rfl⟩
 rw [hR] at c ⊢
 simp only at c
 have h1 : CallP Try.prog 103 [.yld 9, .ptr 8 0] (GP50r t bo co (C50r t (false, 0, 0) true)) (Ret (.tup []) (GP50r t bo co (C50r t R true))) := by
  refine c.use S50r ?_ (by (repeat' first|exact fp|refine aN ?_ ?_)) rfl
  exact ⟨rfl, rfl⟩
 refine CallP.pre (entPack (n := 10) (T := argT [.yld 9, .ptr 8 0]) (H := G50r t bo co false (false, 0, 0) .ready none) (D := []) S50r (P50r t false (false, 0, 0) .ready none) 9 (by (repeat' first|exact fp|refine aN ?_ ?_)) rfl rfl) ?_
 refine CallP.entR h1 ?_
 exact entUnpack (n := 10) (T := [some (none, .tup [])]) (H := GP50r t bo co (C50r t R true)) (D := []) S50r (P50r t R.1 R .ready none) 9 rfl rfl rfl ⟨trivial, trivial, trivial, trivial, trivial, trivial, trivial⟩
def row50r : Nat → List SV := fun _ => [.fn (.func 87) [] [.ptr 4 0, .ptr 5 0]]
def spn50r (t : TK) : Nat → List SV := fun _ => [.int .i64 (hull (t.trs.map fun x => ((t.odd x : Nat) : Int))).1, .int .i64 (hull (t.trs.map fun x => ((t.odd x : Nat) : Int))).2]
def HS50r (t : TK) (bo : Bool) (co : Nat) : SHeap := HQ t bo co ++ [some (.roa 1 1 row50r), some (.cells (tb t)), some (.cells [.ptr 1 0])]
def HD50r (t : TK) (bo : Bool) (co : Nat) : SHeap := HQ t bo co ++ [some .dead, some .dead, some .dead]
def K50r (t : TK) (bo : Bool) (co : Nat) : CE → SHeap → Prop := fun ce h' =>
 (t.trs = [] ∧ ce = .panic (panE 10) ∧ h' = HD50r t bo co) ∨ (t.trs ≠ [] ∧ ∃ c, 1 ≤ c ∧ ce = .ret (.slice 6 2 0 1 c) ∧ h' = HD50r t bo co ++ [some (.arr 2 1 c (spn50r t))])
theorem t50r (t : TK) (hv : t.Valid) (bo : Bool) (co : Nat) (hbo : OrdV t bo co) : CallP Try.prog 50 [.ptr 1 0, .slice 3 1 0 1 1] (HS50r t bo co) (K50r t bo co) := by
 have c := r50r t hv bo co hbo
 have hR0 : (msOf (t.trs.map fun x => ((t.odd x : Nat) : Int)) = (false, 0, 0) ∧ t.trs = []) ∨ (t.trs ≠ [] ∧ msOf (t.trs.map fun x => ((t.odd x : Nat) : Int)) = (true, (hull (t.trs.map fun x => ((t.odd x : Nat) : Int))).1, (hull (t.trs.map fun x => ((t.odd x : Nat) : Int))).2)) := by
  cases hT : t.trs with
  | nil => exact .inl ⟨rfl, rfl⟩
  | cons x l => exact .inr ⟨List.cons_ne_nil _ _, rfl⟩
 obtain ⟨R, hR⟩ : ∃ R : Ms, msOf (t.trs.map fun x => ((t.odd x : Nat) : Int)) = R := ⟨_, rfl⟩
 rw [hR] at c hR0
 unfold K50r spn50r
 obtain ⟨u, hu⟩ : ∃ u : Int × Int, hull (t.trs.map fun x => ((t.odd x : Nat) : Int)) = u := ⟨_, rfl⟩
 rw [hu] at hR0 ⊢
 have hcl : R.1 = true ∨ R.1 = false := by cases R.1 <;> simp
 refine callMK (E := E) E_ok Try.func50 rfl ?_
 (repeat' first|exact ap|refine aN ?_ ?_)
 all_goals first | exact om | skip
 all_goals first | (show ((ti134.bytes : Nat) : Int) * ((1 : Nat) : Int) ≤ _; decide) | skip
 refine loopP E_ok [0, 5, 17, 18] (fun j : Nat => [(19, .int .i64 j)]) (fun j _ => match j with
   | 0 => HS50r t bo co ++ [some (.arr 4 1 1 (mrow (.fnil) (false, 0, 0))), some (.cells [.slice 6 4 0 1 1])]
   | _ => HS50r t bo co ++ [some (.arr 4 1 1 (mrow (.fn (.func 87) [] [.ptr 4 0, .ptr 5 0]) (false, 0, 0))), some (.cells [.slice 6 4 0 1 1])]) (fun j => j ≤ 1) (fun j => 1 - j) 0 (Nat.zero_le _) ?_ ?_
 ·refine ent_tau [0, 1, 2, 3, 4, 5, 6, 7] ⟨?_, by (repeat' first|exact tm|refine aN ?_ ?_), rfl⟩
  (repeat' first|exact fp|refine aN ?_ ?_)
  all_goals exact one1' rfl
 rintro j hj
 have hj2 : j = 0 ∨ j = 1 := by omega
 rcases hj2 with rfl | rfl
 ·all_goals (repeat' first|exact ap|refine aN ?_ ?_)
  all_goals first | exact gd | skip
  all_goals intro h1
  all_goals first | exact absurd h1 (by decide) | (cases h1; done) | skip
  (repeat' first|exact ap|refine aN ?_ ?_)
  all_goals first | exact om | skip
  refine ⟨1, by omega, by omega, ?_⟩
  refine ent_tau [0, 1, 2, 3, 4, 5, 6, 7] ⟨?_, by (repeat' first|exact tm|refine aN ?_ ?_), rfl⟩
  (repeat' first|exact fp|refine aN ?_ ?_)
  all_goals exact one1' rfl
 ·all_goals (repeat' first|exact ap|refine aN ?_ ?_)
  all_goals first | exact gd | skip
  all_goals intro h1
  all_goals first | exact absurd h1 (by decide) | (cases h1; done) | skip
  (repeat' first|exact ap|refine aN ?_ ?_)
  all_goals first | exact om | skip
  refine (t67o t bo co).use [0, 1, 2] ?_ (by (repeat' first|exact fp|refine aN ?_ ?_)) rfl
  (repeat' first|exact ap|refine aN ?_ ?_)
  refine rangeP E_ok rfl rfl ?_
  refine c.use [0, 1, 2, 7, 8, 6, 4, 5, 9, 11] ?_ (by (repeat' first|exact fp|refine aN ?_ ?_)) rfl
  refine ⟨by decide, ?_⟩
  rcases hR0 with ⟨rfl, hne⟩ | ⟨hne, rfl⟩
  ·(repeat' first|exact ap|refine aN ?_ ?_)
   all_goals first | exact om | skip
   refine must (fun hb => ?_) (fun hb => ?_)
   ·exact absurd hb (by decide)
   ·(repeat' first|exact ap|refine aN ?_ ?_)
    ·exact fun o h => h
    refine ⟨_, _, .inl ⟨hne, rfl, rfl⟩, ?_⟩
    exact ent_tau [0, 1, 2, 3, 4, 5] ⟨by (repeat' first|exact fp|refine aN ?_ ?_), by (repeat' first|exact tm|refine aN ?_ ?_), rfl⟩
  ·(repeat' first|exact ap|refine aN ?_ ?_)
   all_goals first | exact om | skip
   refine must (fun hb => ?_) (fun hb => ?_)
   ·(repeat' first|exact ap|refine aN ?_ ?_)
    all_goals first | exact om | skip
    refine loopP E_ok [46, 47] (fun g : Nat × Nat => [(48, .int .i64 g.1), (11, match g.1 with | 0 => .snil | _ => .slice 12 2 0 g.1 g.2)]) (fun g H => match g.1 with
      | 0 => HQ t bo co ++ [some (.roa 1 1 row50r), some .dead, some .dead, some (.arr 4 1 1 (mrow (.fn (.func 87) [] [.ptr 4 0, .ptr 5 0]) (true, u.1, u.2))), some (.cells [.slice 6 4 0 1 1]), some .dead, some .dead, some (.obj isDfr), some .dead]
      | _ => HQ t bo co ++ [some (.roa 1 1 row50r), some .dead, some .dead, some (.arr 4 1 1 (mrow (.fn (.func 87) [] [.ptr 4 0, .ptr 5 0]) (true, u.1, u.2))), some (.cells [.slice 6 4 0 1 1]), some .dead, some .dead, some (.obj isDfr), some .dead, some (.arr 2 1 g.2 (fun _ => [.int .i64 u.1, .int .i64 u.2]))]) (fun g => g.1 ≤ 1 ∧ (0 < g.1 → g.1 ≤ g.2 ∧ g.2 ≤ 9223372036854775807)) (fun g => 1 - g.1) (0, 0) ⟨Nat.zero_le _, fun h => absurd h (Nat.lt_irrefl 0)⟩ ?_ ?_
    ·refine ent_tau [0, 1, 2, 3, 4, 5, 6, 7, 8, 9, 10, 11] ⟨?_, by (repeat' first|exact tm|refine aN ?_ ?_), rfl⟩
     (repeat' first|exact fp|refine aN ?_ ?_)
     exact fun o h => h
    rintro ⟨j, c⟩ ⟨hj, hjc⟩
    simp only at hj hjc
    have hj2 : j = 0 ∨ j = 1 := by omega
    rcases hj2 with rfl | rfl
    ·all_goals (repeat' first|exact ap|refine aN ?_ ?_)
     all_goals first | exact gd | skip
     all_goals intro h1
     all_goals first | exact absurd h1 (by decide) | (cases h1; done) | skip
     (repeat' first|exact ap|refine aN ?_ ?_)
     all_goals first | exact om | skip
     all_goals first | exact (hjc (by omega)).2 | (show 1 * ti28.bytes ≤ _; decide) | (show 1 * ti28.bytes ≤ _; decide) | skip
     intro c' hc1 hc2
     (repeat' first|exact ap|refine aN ?_ ?_)
     all_goals first | exact om | skip
     refine ⟨(1, c'), ⟨by simp only; omega, fun _ => ⟨hc1, hc2⟩⟩, by simp only; omega, ?_⟩
     refine ent_tau [0, 1, 2, 3, 4, 5, 6, 7, 8, 9, 10, 11, 14] ⟨?_, by (repeat' first|exact tm|refine aN ?_ ?_), rfl⟩
     (repeat' first|exact fp|refine aN ?_ ?_)
     all_goals first | exact fun o h => h | skip
     all_goals exact one1' rfl
    ·all_goals (repeat' first|exact ap|refine aN ?_ ?_)
     all_goals first | exact gd | skip
     all_goals intro h1
     all_goals first | exact absurd h1 (by decide) | (cases h1; done) | skip
     (repeat' first|exact ap|refine aN ?_ ?_)
     all_goals first | exact om | skip
     ·exact fun o h => h
     refine ⟨_, _, .inr ⟨hne, c, (hjc (by omega)).1, rfl, rfl⟩, ?_⟩
     refine ent_tau [0, 1, 2, 3, 4, 5, 12] ⟨?_, by (repeat' first|exact tm|refine aN ?_ ?_), rfl⟩
     (repeat' first|exact fp|refine aN ?_ ?_)
   ·cases hb
end Go.Proofs.Ytioajogaghgipaa
/-
 Contract: ticket.Wrong.
-/
namespace Go.Proofs.Ytioajogaghgipaa
open Go Go.Sy Tic
set_option linter.unusedSimpArgs false
set_option maxRecDepth 100000
set_option maxHeartbeats 4000000
attribute [local irreducible] CallP CodeP Ent YieldP
set_option maxHeartbeats 16000000

def K50ra (t : TK) : CE → SHeap → Prop := fun ce h' =>
 (t.trs = [] ∧ ce = .panic (panE 10) ∧ h' = [some (.roa 5 t.n (TF t)), some .dead, some .dead, some .dead, some .dead, some .dead]) ∨ (t.trs ≠ [] ∧ ∃ c, 1 ≤ c ∧ ce = .ret (.slice 6 2 0 1 c) ∧ h' = [some (.roa 5 t.n (TF t)), some .dead, some .dead, some .dead, some .dead, some .dead, some (.arr 2 1 c (spn50r t))])
def K50rz (t : TK) : CE → SHeap → Prop := fun ce h' =>
 ∃ c, 1 ≤ c ∧ ce = .ret (.slice 5 2 0 1 c) ∧ h' = [some (.roa 5 t.n (TF t)), some .dead, some .dead, some .dead, some .dead, some (.arr 2 1 c (spn50r t))]
def rowzr : Nat → List SV := fun _ => [.fn (.func 87) [] [.ptr 3 0, .ptr 4 0]]
theorem t50ra (t : TK) (hv : t.Valid) (h0 : 0 < t.n) (c : Nat) (hc : t.n ≤ c) : CallP Try.prog 50 [.ptr 1 0, .slice 3 1 0 1 1] (HA t c ++ [some (.roa 1 1 row50r), some (.cells (tb t)), some (.cells [.ptr 1 0])]) (K50ra t) := by
 have h := t50r t hv true c (.inr ⟨h0, rfl, hc⟩)
 refine CallP.ent (CallP.pre (h' := HS50r t true c) (Ent.trans (entCells (i := 1) (cs' := [.int .i64 t.huts, .osl t.b 0 5 t.n t.cap, .osl true 2 1 t.n c]) rfl (fun η => by simp [denL, den])) ?_) (h.mono fun ce h1 hk => ?_))
 ·exact ent_tau [0, 1, 2, 3, 4, 5] ⟨by (repeat' first|exact fp|refine aN ?_ ?_), by (repeat' first|exact tm|refine aN ?_ ?_), rfl⟩
 ·rcases hk with ⟨hne, rfl, rfl⟩ | ⟨hne, c', hc', rfl, rfl⟩
  ·refine ⟨_, _, .inl ⟨hne, rfl, rfl⟩, ?_⟩
   show Ent 6 ⟨[some (none, panE 10)], _, []⟩ ⟨[some (none, panE 10)], _, []⟩
   exact ent_tau [0, 1, 2, 3, 4, 5] ⟨by (repeat' first|exact fp|refine aN ?_ ?_), by (repeat' first|exact tm|refine aN ?_ ?_), rfl⟩
  ·refine ⟨_, _, .inr ⟨hne, c', hc', rfl, rfl⟩, ?_⟩
   show Ent 6 ⟨[some (none, .slice 6 2 0 1 c')], _, []⟩ ⟨[some (none, .slice 6 2 0 1 c')], _, []⟩
   exact ent_tau [0, 1, 2, 3, 4, 5, 6] ⟨by (repeat' first|exact fp|refine aN ?_ ?_), by (repeat' first|exact tm|refine aN ?_ ?_), rfl⟩
theorem t50rz (t : TK) (hv : t.Valid) (h0 : t.n = 0) : CallP Try.prog 50 [.ptr 1 0, .slice 2 1 0 1 1] (HZ t ++ [some (.roa 1 1 rowzr), some (.cells (tb t)), some (.cells [.ptr 1 0])]) (K50rz t) := by
 have h := t50r t hv false 0 (.inl ⟨h0, rfl, rfl⟩)
 have hn := valid0 hv h0
 have hal : Ent 5 ⟨argT [.ptr 1 0, .slice 2 1 0 1 1], HZ t ++ [some (.roa 1 1 rowzr), some (.cells (tb t)), some (.cells [.ptr 1 0])], []⟩ ⟨argT [.ptr 1 0, .slice 2 1 0 1 1], [some (.roa 5 t.n (TF t)), some (.cells [.int .i64 t.huts, .osl t.b 0 5 t.n t.cap, .osl false 5 1 t.n 0]), some (.roa 1 1 rowzr), some (.cells (tb t)), some (.cells [.ptr 1 0]), some (.roa 1 t.n (rowO (ord t)))], []⟩ := by
  unfold HZ tb
  rw [h0]
  refine (entCells (i := 1) (cs' := [.int .i64 t.huts, .osl t.b 0 5 0 t.cap, .osl false 5 1 0 0]) rfl (fun η => by simp [denL, den])).trans ?_
  exact entAlias (i := 0) rfl 1 (rowO (ord t))
 refine CallP.ent (CallP.pre hal (CallP.frameH h [0, 1, 5, 2, 3, 4] (by (repeat' first|exact fp|refine aN ?_ ?_)) rfl ?_))
 rintro ce h' (⟨hne, rfl, rfl⟩ | ⟨hne, c', hc', rfl, rfl⟩)
 ·exact absurd hne hn
 ·refine ⟨rfl, ?_⟩
  refine ⟨_, _, ⟨c', hc', rfl, rfl⟩, ?_⟩
  exact ent_tau [0, 1, 2, 3, 4, 6] ⟨by (repeat' first|exact fp|refine aN ?_ ?_), by (repeat' first|exact tm|refine aN ?_ ?_), rfl⟩
theorem t28 (t : TK) (hn : t.n ≤ 1000000) (hh : InR .i64 t.huts) : CallP Try.prog 28 [TA t] (TH t) (Ret (.tup [.agg [.int .i64 (spT t t.wrong).1, .int .i64 (spT t t.wrong).2.1], .int .i64 (spT t t.wrong).2.2]) (TH t)) := by
 refine callD (E := E) E_ok Try.func28 rfl Try.func86 ⟨_, _, _, _, _, _, _, _, rfl, rfl, rfl⟩ rfl rfl ?_
 (repeat' first|exact ap|refine aN ?_ ?_)
 refine CallP.frame (t48 t true hn hh) [0] (by (repeat' first|exact fp|refine aN ?_ ?_)) (apartB_ok rfl) rfl ?_
 rintro ce h' (⟨hv, hb, h0, rfl, rfl⟩ | ⟨hv, hb, h0, c, hc, rfl, rfl⟩ | ⟨hv, rfl, rfl⟩ | ⟨hv, hb, rfl, rfl⟩)
 ·refine ⟨ownB_ok rfl, ?_⟩
  have e0 : spT t t.wrong = ((t.wrong).1, (t.wrong).2, 0) := by unfold spT; rw [if_neg (by simpa using hv), if_neg (valid0 hv h0)]
  (repeat' first|exact ap|refine aN ?_ ?_)
  refine CallP.frame (t50rz t hv h0) [0, 4, 6, 1, 5] (by (repeat' first|exact fp|refine aN ?_ ?_); all_goals exact one1' rfl) (apartB_ok rfl) rfl ?_
  rintro ce h' ⟨c', hc', rfl, rfl⟩
  refine ⟨ownB_ok rfl, ?_⟩
  (repeat' first|exact ap|refine aN ?_ ?_)
  all_goals first | exact om | skip
  refine (t47n 0).use [3] ?_ (by (repeat' first|exact fp|refine aN ?_ ?_)) rfl
  (repeat' first|exact ap|refine aN ?_ ?_)
  refine ⟨_, _, ⟨rfl, rfl⟩, ?_⟩
  rw [e0]
  exact ent_tau [0] ⟨by (repeat' first|exact fp|refine aN ?_ ?_), by (repeat' first|exact tm|refine aN ?_ ?_), rfl⟩
 ·refine ⟨ownB_ok rfl, ?_⟩
  (repeat' first|exact ap|refine aN ?_ ?_)
  refine CallP.frame (t50ra t hv h0 c hc.1) [0, 4, 5, 7, 1, 6] (by (repeat' first|exact fp|refine aN ?_ ?_); all_goals exact one1' rfl) (apartB_ok rfl) rfl ?_
  rintro ce h' (⟨hne, rfl, rfl⟩ | ⟨hne, c', hc', rfl, rfl⟩)
  ·refine ⟨ownB_ok rfl, ?_⟩
   have e0 : spT t t.wrong = (0, 0, 10) := by unfold spT; rw [if_neg (by simpa using hv), if_pos hne]
   (repeat' first|exact ap|refine aN ?_ ?_)
   refine (t47s 10 0).use [3] ?_ (by (repeat' first|exact fp|refine aN ?_ ?_)) rfl
   (repeat' first|exact ap|refine aN ?_ ?_)
   refine ⟨_, _, ⟨rfl, rfl⟩, ?_⟩
   rw [e0]
   exact ent_tau [0] ⟨by (repeat' first|exact fp|refine aN ?_ ?_), by (repeat' first|exact tm|refine aN ?_ ?_), rfl⟩
  ·refine ⟨ownB_ok rfl, ?_⟩
   have e0 : spT t t.wrong = ((t.wrong).1, (t.wrong).2, 0) := by unfold spT; rw [if_neg (by simpa using hv), if_neg hne]
   (repeat' first|exact ap|refine aN ?_ ?_)
   all_goals first | exact om | skip
   refine (t47n 0).use [3] ?_ (by (repeat' first|exact fp|refine aN ?_ ?_)) rfl
   (repeat' first|exact ap|refine aN ?_ ?_)
   refine ⟨_, _, ⟨rfl, rfl⟩, ?_⟩
   rw [e0]
   exact ent_tau [0] ⟨by (repeat' first|exact fp|refine aN ?_ ?_), by (repeat' first|exact tm|refine aN ?_ ?_), rfl⟩
 ·refine ⟨ownB_ok rfl, ?_⟩
  have e0 : spT t t.wrong = (0, 0, 1) := by unfold spT; rw [if_pos hv]
  (repeat' first|exact ap|refine aN ?_ ?_)
  refine (t47s 1 0).use [3] ?_ (by (repeat' first|exact fp|refine aN ?_ ?_)) rfl
  (repeat' first|exact ap|refine aN ?_ ?_)
  refine ⟨_, _, ⟨rfl, rfl⟩, ?_⟩
  rw [e0]
  exact ent_tau [0] ⟨by (repeat' first|exact fp|refine aN ?_ ?_), by (repeat' first|exact tm|refine aN ?_ ?_), rfl⟩
 ·cases hb
end Go.Proofs.Ytioajogaghgipaa
/-
 Contract: ticket.only.
-/
namespace Go.Proofs.Ytioajogaghgipaa
open Go Go.Sy Tic
set_option linter.unusedSimpArgs false
set_option maxRecDepth 100000
set_option maxHeartbeats 4000000
attribute [local irreducible] CallP CodeP Ent YieldP
set_option maxHeartbeats 16000000

theorem cp_row (t : TK) : ∀ k, k < ((t.n : Nat) : Int).toNat → (fun k => selL (decide (0 ≤ k ∧ k < 0 + t.n.min ((t.n : Nat) : Int).toNat)) (TF t (0 + (k - 0))) ((fun _ => [SV.int .i64 0, SV.int .i64 0, SV.int .i64 0, SV.int .i64 0, SV.int .i64 0]) k)) k = TF t k := fun k hk => by
 have e : t.n.min ((t.n : Nat) : Int).toNat = t.n := by
  rw [Int.toNat_natCast]
  exact Nat.min_self _
 have e2 : 0 + (k - 0) = k := by omega
 simp only [e, e2]
 rw [decide_eq_true (by omega), selL_true]
theorem t91 (t : TK) (hn : t.n ≤ 5) (S : Nat) (hS : S < 2 ^ 64) : CallP Try.prog 91 [TA t, .int .u64 S] (TH t) (Ret (.agg [.int .i64 t.huts, .slice 1 5 0 (t.only S).n t.n]) (TH t ++ [some (.arr 5 (t.only S).n t.n (TF (t.only S)))])) := by
 have c := t109 t hn S hS
 refine callR (E := E) E_ok Try.func91 rfl ?_
 (repeat' first|exact ap|refine aN ?_ ?_)
 all_goals first | exact om | skip
 ·exact fun _ _ => rfl
 ·show (40 : Int) * ((t.n : Nat) : Int) ≤ _
  omega
 refine c.use [4, 5, 2] ?_ (by
  (repeat' first|exact fp|refine aN ?_ ?_)
  all_goals exact cp_row t) rfl
 (repeat' first|exact ap|refine aN ?_ ?_)
 all_goals first | exact om | skip
 refine ent_tau [0, 4] ⟨?_, ?_, rfl⟩
 ·(repeat' first|exact fp|refine aN ?_ ?_)
 ·(repeat' first|exact tm|refine aN ?_ ?_)
theorem only_valid {t : TK} (hv : t.Valid) (S : Nat) : (t.only S).Valid := by
 refine ⟨hv.1, Nat.le_trans (pickL_len S t.n) hv.2.1, fun i hi => ?_⟩
 exact hv.2.2 _ (TK.mem_pickL.1 (TK.getD_mem hi)).1
end Go.Proofs.Ytioajogaghgipaa
/-
 Plain law: whose turn it is, by what is known of those who wait.
-/
namespace Go.Proofs.Ytioajogaghgipaa
open Go Go.Sy Tic
set_option maxRecDepth 100000

theorem gget_gset (m : GL) (k v k' : List Int) : (gget (gset m k v) k').map (·.2) = if k' = k then some v else (gget m k').map (·.2) := by
 induction m with
 | nil =>
  simp only [gset, gget, List.nil_append]
  by_cases h : k' = k
  ·rw [if_pos h, if_pos h.symm]; rfl
  ·rw [if_neg h, if_neg (fun e => h e.symm)]
 | cons p m ih =>
  obtain ⟨a, b⟩ := p
  unfold gset at ih ⊢
  simp only [gget]
  by_cases h : a = k
  ·rw [if_pos h]
   simp only [List.set_cons_zero, gget]
   by_cases h2 : k' = k
   ·rw [if_pos h2, if_pos h2.symm]; rfl
   ·rw [if_neg h2, if_neg (fun e => h2 e.symm), if_neg (fun e => h2 (e.symm.trans h))]
  ·rw [if_neg h]
   cases hg : gget m k with
   | none =>
    rw [hg] at ih
    simp only [List.cons_append, gget] at ih ⊢
    by_cases h2 : a = k'
    ·rw [if_pos h2, if_pos h2, if_neg (fun e => h (h2.trans e))]
    ·rw [if_neg h2, if_neg h2]
     cases h3 : gget (m ++ [(k, v)]) k' with
     | none =>
      rw [h3] at ih
      cases h4 : gget m k' with
      | none => rw [h4] at ih; simpa using ih
      | some q' => rw [h4] at ih; simpa using ih
     | some q =>
      rw [h3] at ih
      cases h4 : gget m k' with
      | none => rw [h4] at ih; simpa using ih
      | some q' => rw [h4] at ih; simpa using ih
   | some q =>
    rw [hg] at ih
    simp only [List.set_cons_succ, gget] at ih ⊢
    by_cases h2 : a = k'
    ·rw [if_pos h2, if_pos h2, if_neg (fun e => h (h2.trans e))]
    ·rw [if_neg h2, if_neg h2]
     cases h3 : gget (m.set q.1 (k, v)) k' with
     | none =>
      rw [h3] at ih
      cases h4 : gget m k' with
      | none => rw [h4] at ih; simpa using ih
      | some q' => rw [h4] at ih; simpa using ih
     | some q2 =>
      rw [h3] at ih
      cases h4 : gget m k' with
      | none => rw [h4] at ih; simpa using ih
      | some q' => rw [h4] at ih; simpa using ih
def kp (x : Tru) (m : Int) (n j : Nat) : Int × Int := match decide (j < n) && inI m (x j).1 (x j).2 with
 | true => x j
 | false => (-1, -1)
def keyI (x : Tru) (m : Int) (n : Nat) : List Int := [(kp x m n 0).1, (kp x m n 0).2, (kp x m n 1).1, (kp x m n 1).2, (kp x m n 2).1, (kp x m n 2).2, (kp x m n 3).1, (kp x m n 3).2, (kp x m n 4).1, (kp x m n 4).2]
theorem keyI_inj {x y : Tru} {m : Int} {n : Nat} (e : keyI x m n = keyI y m n) : ∀ j, j < 5 → kp x m n j = kp y m n j := by
 unfold keyI at e
 simp only [List.cons.injEq, and_true] at e
 obtain ⟨a0, b0, a1, b1, a2, b2, a3, b3, a4, b4⟩ := e
 intro j hj
 match j, hj with
 | 0, _ => exact Prod.ext a0 b0
 | 1, _ => exact Prod.ext a1 b1
 | 2, _ => exact Prod.ext a2 b2
 | 3, _ => exact Prod.ext a3 b3
 | 4, _ => exact Prod.ext a4 b4
theorem now_key {x y : Tru} {m : Int} {n : Nat} (hn : n ≤ 5) (hx : ∀ i, i < n → 0 ≤ (x i).1) (hy : ∀ i, i < n → 0 ≤ (y i).1) (e : keyI x m n = keyI y m n) : ∀ k, k ≤ n → now x m k = now y m k := by
 have hk := keyI_inj e
 have hw : ∀ i, i < n → inI m (x i).1 (x i).2 = inI m (y i).1 (y i).2 ∧ (inI m (x i).1 (x i).2 = true → x i = y i) := fun i hi => by
  have h := hk i (by omega)
  unfold kp at h
  rw [decide_eq_true hi, Bool.true_and, Bool.true_and] at h
  have h1 := hx i hi
  have h2 := hy i hi
  cases ha : inI m (x i).1 (x i).2 <;> cases hb : inI m (y i).1 (y i).2 <;> rw [ha, hb] at h <;> simp only at h
  ·exact ⟨rfl, fun h => by cases h⟩
  ·rw [← h] at h2
   exact absurd h2 (by decide)
  ·rw [h] at h1
   exact absurd h1 (by decide)
  ·exact ⟨rfl, fun _ => h⟩
 intro k
 induction k with
 | zero => intro _; rfl
 | succ k ih =>
  intro hkn
  have ihk := ih (by omega)
  obtain ⟨w1, w2⟩ := hw k (by omega)
  have hr := now_rng y m k
  rw [now, now, ihk, ← w1]
  cases hb : inI m (x k).1 (x k).2 with
  | false => rfl
  | true =>
   have hxy := w2 hb
   rw [Bool.true_and]
   by_cases h0 : now y m k < 0
   ·rw [decide_eq_true h0]
    rfl
   ·rw [decide_eq_false h0, Bool.false_or, Bool.false_or]
    obtain ⟨f, hf⟩ : ∃ f : Nat, now y m k = (f : Nat) := ⟨(now y m k).toNat, by omega⟩
    have hin := now_in hf
    obtain ⟨v1, v2⟩ := hw f (by omega)
    have hfx := v2 (by rw [v1]; exact hin.2)
    have hbe : before x k (now y m k).toNat = before y k (now y m k).toNat := by
     rw [hf, Int.toNat_natCast]
     unfold before
     rw [hxy, hfx]
    rw [hbe]
    rfl
abbrev Wh := GL × Nat × Bool
def seenB (L : GL) (k : List Int) : Bool := !decide ((gval 1 L k).headD 0 = 0)
def stW (m : Int) (n : Nat) (g : Wh) (x : Tru) : Wh := match seenB g.1 (keyI x m n) with
 | true => g
 | false => (gset g.1 (keyI x m n) [1], match decide (now x m n < 0) with
  | true => (g.2.1, true)
  | false => (g.2.1 % 32 ||| 2 ^ (now x m n).toNat, g.2.2))
theorem seenB_get (L : GL) (k : List Int) : seenB L k = match (gget L k).map (·.2) with
  | some v => !decide (v.headD 0 = 0)
  | none => false := by
 unfold seenB gval
 cases gget L k with
 | none => rfl
 | some q => rfl
theorem seenB_set (L : GL) (k k' : List Int) : seenB (gset L k [1]) k' = (decide (k' = k) || seenB L k') := by
 rw [seenB_get, seenB_get, gget_gset]
 by_cases h : k' = k
 ·rw [if_pos h, decide_eq_true h]
  rfl
 ·rw [if_neg h, decide_eq_false h]
  rfl
structure InvW (m : Int) (n : Nat) (l : List Tru) (g : Wh) : Prop where
 lt : g.2.1 < 2 ^ n
 bit : ∀ i, i < n → (g.2.1.testBit i = true ↔ ∃ x ∈ l, now x m n = (i : Nat))
 non : g.2.2 = true ↔ ∃ x ∈ l, now x m n = -1
 key : ∀ k, seenB g.1 k = true ↔ ∃ x ∈ l, keyI x m n = k
theorem InvW.step {m : Int} {n : Nat} (hn : n ≤ 5) {l : List Tru} {g : Wh} (h : InvW m n l g) {x : Tru} (hb : ∀ y, y ∈ x :: l → ∀ i, i < n → 0 ≤ (y i).1) : InvW m n (l ++ [x]) (stW m n g x) := by
 have hr := now_rng x m n
 unfold stW
 cases hs : seenB g.1 (keyI x m n) with
 | true =>
  obtain ⟨y, hy, e⟩ := (h.key _).1 hs
  have en : now y m n = now x m n := now_key hn (hb y (List.mem_cons_of_mem _ hy)) (hb x List.mem_cons_self) e n (Nat.le_refl _)
  have ext : ∀ {q : Tru → Prop}, (q x → q y) → ((∃ z ∈ l ++ [x], q z) ↔ ∃ z ∈ l, q z) := fun {q} hq => by
   constructor
   ·rintro ⟨z, hz, hqz⟩
    rcases List.mem_append.1 hz with hz | hz
    ·exact ⟨z, hz, hqz⟩
    ·rw [List.mem_singleton] at hz
     subst hz
     exact ⟨y, hy, hq hqz⟩
   ·rintro ⟨z, hz, hqz⟩
    exact ⟨z, List.mem_append_left _ hz, hqz⟩
  exact ⟨h.lt, fun i hi => (h.bit i hi).trans (ext fun q => en.trans q).symm, h.non.trans (ext fun q => en.trans q).symm, fun k => (h.key k).trans (ext fun q => e.trans q).symm⟩
 | false =>
  have spl : ∀ {q : Tru → Prop}, (∃ z ∈ l ++ [x], q z) ↔ ((∃ z ∈ l, q z) ∨ q x) := fun {q} => by
   constructor
   ·rintro ⟨z, hz, hqz⟩
    rcases List.mem_append.1 hz with hz | hz
    ·exact .inl ⟨z, hz, hqz⟩
    ·rw [List.mem_singleton] at hz
     subst hz
     exact .inr hqz
   ·rintro (⟨z, hz, hqz⟩ | hqz)
    ·exact ⟨z, List.mem_append_left _ hz, hqz⟩
    ·exact ⟨x, List.mem_append_right _ List.mem_cons_self, hqz⟩
  have hk : ∀ k, seenB (gset g.1 (keyI x m n) [1]) k = true ↔ ∃ z ∈ l ++ [x], keyI z m n = k := fun k => by
   rw [seenB_set, Bool.or_eq_true, decide_eq_true_eq, h.key k, spl]
   exact ⟨fun hh => hh.elim (fun e => .inr e.symm) .inl, fun hh => hh.elim .inr fun e => .inl e.symm⟩
  by_cases h0 : now x m n < 0
  ·rw [decide_eq_true h0]
   refine ⟨h.lt, fun i hi => ?_, ?_, hk⟩
   ·rw [spl, h.bit i hi]
    exact ⟨.inl, fun hh => hh.elim id fun e => by omega⟩
   ·rw [spl]
    exact ⟨fun _ => .inr (by omega), fun _ => rfl⟩
  ·rw [decide_eq_false h0]
   obtain ⟨f, hf⟩ : ∃ f : Nat, now x m n = (f : Nat) := ⟨(now x m n).toNat, by omega⟩
   have h32 : 2 ^ n ≤ 2 ^ 5 := Nat.pow_le_pow_right (by omega) hn
   have hlt := h.lt
   have hmod : g.2.1 % 32 = g.2.1 := Nat.mod_eq_of_lt (by omega)
   rw [hf, Int.toNat_natCast]
   have hfn : f < n := by omega
   simp only [hmod]
   refine ⟨Nat.or_lt_two_pow h.lt (Nat.pow_lt_pow_right (by omega) hfn), fun i hi => ?_, ?_, hk⟩
   ·rw [spl, Nat.testBit_or, Bool.or_eq_true, h.bit i hi, Nat.testBit_two_pow]
    simp only [decide_eq_true_eq]
    exact or_congr Iff.rfl ⟨fun e => by rw [hf, e], fun e => by omega⟩
   ·rw [spl]
    exact h.non.trans ⟨.inl, fun hh => hh.elim id fun e => by omega⟩
theorem foldW {m : Int} {n : Nat} (hn : n ≤ 5) : ∀ (l l0 : List Tru) (g : Wh), InvW m n l0 g → (∀ y, y ∈ l0 ++ l → ∀ i, i < n → 0 ≤ (y i).1) → InvW m n (l0 ++ l) (l.foldl (stW m n) g)
 | [], l0, g, h, _ => by rw [List.append_nil]; exact h
 | x :: l, l0, g, h, hb => by
  have := foldW hn l (l0 ++ [x]) _ (h.step hn (x := x) fun y hy => hb y (by
   rcases List.mem_cons.1 hy with rfl | hy
   ·exact List.mem_append_right _ List.mem_cons_self
   ·exact List.mem_append_left _ hy)) (fun y hy => hb y (by rw [List.append_assoc] at hy; exact hy))
  rw [List.append_assoc] at this
  exact this
theorem inv0W (m : Int) (n : Nat) : InvW m n [] ([], 0, false) := by
 refine ⟨Nat.pow_pos (by decide), fun i hi => ?_, ?_, fun k => ?_⟩
 ·simp
 ·simp
 ·simp [seenB, gval, gget]
theorem whose_fold {t : TK} (hv : t.Valid) (m : Int) : ((t.trP t.ordL).foldl (stW m t.n) ([], 0, false)).2 = (t.whose m, t.nobody m) := by
 have hm : ∀ x, x ∈ t.trP t.ordL ↔ x ∈ t.trs := fun x => TK.mem_trP (TK.ordL_ok t)
 have h := foldW hv.2.1 (t.trP t.ordL) [] _ (inv0W m t.n) (fun y hy i hi => (trs_bnd2 hv ((hm y).1 hy) i hi).1.1)
 rw [List.nil_append] at h
 refine Prod.ext ?_ ?_
 ·refine set_eq h.lt (TK.whose_lt m) fun i hi => ?_
  rw [Bool.eq_iff_iff, h.bit i hi, TK.whose_bit]
  exact ⟨fun ⟨x, hx, e⟩ => ⟨hi, x, (hm x).1 hx, e⟩, fun ⟨_, x, hx, e⟩ => ⟨x, (hm x).2 hx, e⟩⟩
 ·rw [Bool.eq_iff_iff, h.non]
  show _ ↔ t.nobody m = true
  unfold TK.nobody
  simp only [List.any_eq_true, decide_eq_true_eq]
  exact ⟨fun ⟨x, hx, e⟩ => ⟨x, (hm x).1 hx, e⟩, fun ⟨x, hx, e⟩ => ⟨x, (hm x).2 hx, e⟩⟩
end Go.Proofs.Ytioajogaghgipaa
