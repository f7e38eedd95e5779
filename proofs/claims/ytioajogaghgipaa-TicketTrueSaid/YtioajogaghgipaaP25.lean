/-
  Parts: B23, B27, B28, B29, C4, Dd.
-/
import Derived.Test.YtioajogaghgipaaP24
import Derived.Test.YtioajogaghgipaaP20
import Derived.Test.YtioajogaghgipaaP23
import Derived.Test.YtioajogaghgipaaP19
import Derived.Test.YtioajogaghgipaaP22
import Derived.Test.YtioajogaghgipaaP21
set_option linter.unusedVariables false
/-
 Contract: ticket.Whose.
-/
namespace Go.Proofs.Ytioajogaghgipaa
open Go Go.Sy Tic
set_option linter.unusedSimpArgs false
set_option maxRecDepth 100000
set_option maxHeartbeats 4000000
attribute [local irreducible] CallP CodeP Ent YieldP
set_option maxHeartbeats 16000000

noncomputable def L20h (st : LoopState) (p : Option Code) : SObj := .loopr [none, none, some (.ptr 3 0), some (.ptr 4 0), none, none, none, none, some (.ptr 5 0), some (.ptr 7 0), some (.ptr 8 0), none, none, none, none, none, none, none, none, none, none, none, none, none, none, none, none, none, none, none, none, none, none, none, none, none, none, none, none, none, none, none, none, none, none, none, none, none, none, none, none, none, none, none, none, none, none, none, none, none, none, none, none, none, none, none, none, none, none, none, none, none, none, none, none, none, none, none, none] #[24] (asOf Try.f20) (bodyOf Try.f20) st p
noncomputable def G20 (t : TK) (m : Int) (bo : Bool) (co : Nat) (g : Wh) (st : LoopState) (p : Option Code) : SHeap :=
 HQ t bo co ++ [some (.cells (tb t)), some (.cells [.int .i64 m]), some (.cells [.map 6]), some (.gmap g100 g.1), some (.cells [.int .i64 (g.2.1 % 32 : Nat)]), some (.cells [.bool g.2.2]), some (.roc [.ptr 1 0]), some (L20h st p)]
def S20 : List Nat := [0, 1, 2, 9, 10, 3, 4, 5, 6, 7, 8, 3, 3]
noncomputable def GP20 (t : TK) (bo : Bool) (co : Nat) (ob : OB) : SHeap :=
 HQ t bo co ++ [some .dead, some .dead, some .dead, some .dead, some .dead, some .dead, some (.roc [.ptr 1 0]), some (.pack S20 ob)]
theorem r20 (t : TK) (hv : t.Valid) (m : Int) (bo : Bool) (co : Nat) (hbo : OrdV t bo co) : ∃ L : GL, CallP Try.prog 103 [.yld 10, .ptr 9 0] (G20 t m bo co ([], 0, false) .ready none) (Ret (.tup []) (G20 t m bo co (L, t.whose m, t.nobody m) .ready none)) := by
 have c := t103 t hv bo co hbo (stepM (stW m t.n)) (C20 t m) (fun g x hx => y20 t hv m bo co g x hx) ([], 0, false)
 rw [run_M] at c
 have hw := whose_fold hv m
 obtain ⟨R, hR⟩ : ∃ R : Wh, (t.trP t.ordL).foldl (stW m t.n) ([], 0, false) = R := ⟨_, rfl⟩
 rw [hR] at c hw
 obtain ⟨L, S, b⟩ := R
 simp only [Prod.mk.injEq] at hw
 obtain ⟨rfl, rfl⟩ := hw
 simp only at c
 refine ⟨L, ?_⟩
 have h1 : CallP Try.prog 103 [.yld 10, .ptr 9 0] (GP20 t bo co (C20 t m ([], 0, false) true)) (Ret (.tup []) (GP20 t bo co (C20 t m (L, t.whose m, t.nobody m) true))) := by
  refine c.use S20 ?_ (by (repeat' first|exact fp|refine aN ?_ ?_)) rfl
  exact ⟨rfl, rfl⟩
 refine CallP.pre (entPack (n := 11) (T := argT [.yld 10, .ptr 9 0]) (H := G20 t m bo co ([], 0, false) .ready none) (D := []) S20 (P20 t m ([], 0, false) .ready none) 10 (by (repeat' first|exact fp|refine aN ?_ ?_)) rfl rfl) ?_
 refine CallP.entR h1 ?_
 exact entUnpack (n := 11) (T := [some (none, .tup [])]) (H := GP20 t bo co (C20 t m (L, t.whose m, t.nobody m) true)) (D := []) S20 (P20 t m (L, t.whose m, t.nobody m) .ready none) 10 rfl rfl rfl ⟨trivial, trivial, trivial, trivial, trivial, trivial, trivial, trivial⟩
theorem t67c : CallP Try.prog 67 [.ptr 0 0] [some .dead] (Ret (.fn (.func 103) [] [.ptr 1 0]) [some .dead, some (.cells [.ptr 0 0])]) := by
 refine callR (E := E) E_ok Try.func67 rfl ?_
 (repeat' first|exact ap|refine aN ?_ ?_)
 exact ent_tau [0, 1] ⟨by (repeat' first|exact fp|refine aN ?_ ?_), by (repeat' first|exact tm|refine aN ?_ ?_), rfl⟩
open Classical in
noncomputable def whoT (t : TK) (m : Int) : Int × Bool × Int := if ¬ t.Valid then (0, false, 1) else if inI m 0 240 = false then (0, false, 2) else if t.trs = [] then (0, false, 10) else ((t.whose m : Nat), t.nobody m, 0)
theorem who_none {t : TK} (m : Int) : (decide (t.whose m = 0) && !t.nobody m) = decide (t.trs = []) := by
 rw [Bool.eq_iff_iff, Bool.and_eq_true, decide_eq_true_eq, decide_eq_true_eq, Bool.not_eq_true']
 constructor
 ·rintro ⟨h1, h2⟩
  apply Classical.byContradiction
  intro hne
  rcases TK.whose_some hne m with h | h
  ·exact h h1
  ·rw [h2] at h
   cases h
 ·intro h
  refine ⟨?_, ?_⟩
  ·refine (TK.zero_bits (TK.whose_lt m)).2 fun i hi => ?_
   cases hb : (t.whose m).testBit i with
   | false => rfl
   | true =>
    obtain ⟨_, x, hx, _⟩ := TK.whose_bit.1 hb
    rw [h] at hx
    cases hx
  ·unfold TK.nobody
   rw [h]
   rfl
theorem t20 (t : TK) (hn : t.n ≤ 1000000) (hh : InR .i64 t.huts) (m : Int) : CallP Try.prog 20 [TA t, .int .i64 m] (TH t) (Ret (.tup [.int .i64 (whoT t m).1, .bool (whoT t m).2.1, .int .i64 (whoT t m).2.2]) (TH t)) := by
 obtain ⟨B, hB⟩ : ∃ B, inI m 0 240 = B := ⟨_, rfl⟩
 have c66 := t66 m
 rw [hB] at c66
 refine callDM (E := E) E_ok Try.func20 rfl Try.func65 ⟨_, _, _, _, _, _, _, _, rfl, rfl, rfl⟩ rfl rfl ?_
 (repeat' first|exact ap|refine aN ?_ ?_)
 refine drawP E_ok [1, 2] pl20_2 (by kernel_rfl) ?_
 (repeat' first|exact ap|refine aN ?_ ?_)
 refine c66.use [] ?_ trivial rfl
 (repeat' first|exact ap|refine aN ?_ ?_)
 refine CallP.frame (t48 t B hn hh) [0] (by (repeat' first|exact fp|refine aN ?_ ?_)) (apartB_ok rfl) rfl ?_
 rintro ce h' (⟨hv, hb, h0, rfl, rfl⟩ | ⟨hv, hb, h0, c, hc, rfl, rfl⟩ | ⟨hv, rfl, rfl⟩ | ⟨hv, hb, rfl, rfl⟩)
 ·refine ⟨ownB_ok rfl, ?_⟩
  obtain ⟨L, c20⟩ := r20 t hv m false 0 (.inl ⟨h0, rfl, rfl⟩)
  (repeat' first|exact ap|refine aN ?_ ?_)
  all_goals first | exact om | skip
  refine (t67c).use [4] ?_ (by (repeat' first|exact fp|refine aN ?_ ?_)) rfl
  (repeat' first|exact ap|refine aN ?_ ?_)
  refine rangeP E_ok rfl rfl ?_
  refine CallP.pre ((entCells (i := 4) (cs' := [.int .i64 t.huts, .osl t.b 0 5 t.n t.cap, .osl false 12 1 t.n 0]) rfl (fun η => by rw [h0]; simp [denL, den])).trans (entAlias (i := 0) rfl 1 (rowO (ord t)))) ?_
  refine c20.use [0, 4, 12, 1, 2, 6, 5, 7, 8, 9, 11] ?_ (by (repeat' first|exact fp|refine aN ?_ ?_); all_goals first | exact h0.symm | exact h0) rfl
  refine ⟨by decide, ?_⟩
  obtain ⟨S, hS⟩ : ∃ S, t.whose m = S := ⟨_, rfl⟩
  obtain ⟨nb, hnb⟩ : ∃ S, t.nobody m = S := ⟨_, rfl⟩
  have hSl : S < 2 ^ 5 := by
   rw [← hS]
   exact Nat.lt_of_lt_of_le (TK.whose_lt m) (Nat.pow_le_pow_right (by decide) hv.2.1)
  have hmod : S % 32 = S := Nat.mod_eq_of_lt hSl
  have hwn := who_none (t := t) m
  rw [hS, hnb] at hwn ⊢
  simp only [hmod]
  (repeat' first|exact ap|refine aN ?_ ?_)
  all_goals first | exact om | skip
  refine must (fun hx => ?_) (fun hx => ?_)
  ·have hne : t.trs ≠ [] := fun e => by
    rw [decide_eq_true e, Bool.and_eq_true, decide_eq_true_eq, Bool.not_eq_true'] at hwn
    obtain ⟨h1, h2⟩ := hwn
    subst h1
    subst h2
    cases hx
   have e0 : whoT t m = (((S : Nat) : Int), nb, 0) := by unfold whoT; rw [if_neg (by simpa using hv), if_neg (by rw [hB, hb]; decide), if_neg hne, hS, hnb]
   (repeat' first|exact ap|refine aN ?_ ?_)
   all_goals first | exact om | skip
   refine drawP E_ok [7, 8] pl20_28 (by kernel_rfl) ?_
   (repeat' first|exact ap|refine aN ?_ ?_)
   all_goals first | exact om | skip
   ·exact fun o h => h
   refine (t47n 0).use [3] ?_ (by (repeat' first|exact fp|refine aN ?_ ?_)) rfl
   (repeat' first|exact ap|refine aN ?_ ?_)
   refine ⟨_, _, ⟨rfl, rfl⟩, ?_⟩
   rw [e0]
   exact ent_tau [0] ⟨by (repeat' first|exact fp|refine aN ?_ ?_), by (repeat' first|exact tm|refine aN ?_ ?_), rfl⟩
  ·have hne : t.trs = [] := by
    have hx2 : (bif !decide (((S : Nat) : Int) = 0) then true else nb) = false := hx
    have h0' : S = 0 := by
     apply Classical.byContradiction
     intro c
     rw [decide_eq_false (by omega)] at hx2
     cases hx2
    subst h0'
    have h2 : nb = false := hx2
    subst h2
    exact of_decide_eq_true hwn.symm
   have e0 : whoT t m = (0, false, 10) := by unfold whoT; rw [if_neg (by simpa using hv), if_neg (by rw [hB, hb]; decide), if_pos hne]
   (repeat' first|exact ap|refine aN ?_ ?_)
   all_goals first | exact om | skip
   ·exact fun o h => h
   refine (t47s 10 0).use [3] ?_ (by (repeat' first|exact fp|refine aN ?_ ?_)) rfl
   (repeat' first|exact ap|refine aN ?_ ?_)
   refine ⟨_, _, ⟨rfl, rfl⟩, ?_⟩
   rw [e0]
   exact ent_tau [0] ⟨by (repeat' first|exact fp|refine aN ?_ ?_), by (repeat' first|exact tm|refine aN ?_ ?_), rfl⟩
 ·refine ⟨ownB_ok rfl, ?_⟩
  obtain ⟨L, c20⟩ := r20 t hv m true c (.inr ⟨h0, rfl, hc.1⟩)
  (repeat' first|exact ap|refine aN ?_ ?_)
  all_goals first | exact om | skip
  refine (t67c).use [4] ?_ (by (repeat' first|exact fp|refine aN ?_ ?_)) rfl
  (repeat' first|exact ap|refine aN ?_ ?_)
  refine rangeP E_ok rfl rfl ?_
  refine CallP.pre (entCells (i := 4) (cs' := [.int .i64 t.huts, .osl t.b 0 5 t.n t.cap, .osl true 5 1 t.n c]) rfl (fun η => by simp [denL, den])) ?_
  refine c20.use [0, 4, 5, 1, 2, 7, 6, 8, 9, 10, 12] ?_ (by (repeat' first|exact fp|refine aN ?_ ?_)) rfl
  refine ⟨by decide, ?_⟩
  obtain ⟨S, hS⟩ : ∃ S, t.whose m = S := ⟨_, rfl⟩
  obtain ⟨nb, hnb⟩ : ∃ S, t.nobody m = S := ⟨_, rfl⟩
  have hSl : S < 2 ^ 5 := by
   rw [← hS]
   exact Nat.lt_of_lt_of_le (TK.whose_lt m) (Nat.pow_le_pow_right (by decide) hv.2.1)
  have hmod : S % 32 = S := Nat.mod_eq_of_lt hSl
  have hwn := who_none (t := t) m
  rw [hS, hnb] at hwn ⊢
  simp only [hmod]
  (repeat' first|exact ap|refine aN ?_ ?_)
  all_goals first | exact om | skip
  refine must (fun hx => ?_) (fun hx => ?_)
  ·have hne : t.trs ≠ [] := fun e => by
    rw [decide_eq_true e, Bool.and_eq_true, decide_eq_true_eq, Bool.not_eq_true'] at hwn
    obtain ⟨h1, h2⟩ := hwn
    subst h1
    subst h2
    cases hx
   have e0 : whoT t m = (((S : Nat) : Int), nb, 0) := by unfold whoT; rw [if_neg (by simpa using hv), if_neg (by rw [hB, hb]; decide), if_neg hne, hS, hnb]
   (repeat' first|exact ap|refine aN ?_ ?_)
   all_goals first | exact om | skip
   refine drawP E_ok [8, 9] pl20_28 (by kernel_rfl) ?_
   (repeat' first|exact ap|refine aN ?_ ?_)
   all_goals first | exact om | skip
   ·exact fun o h => h
   refine (t47n 0).use [3] ?_ (by (repeat' first|exact fp|refine aN ?_ ?_)) rfl
   (repeat' first|exact ap|refine aN ?_ ?_)
   refine ⟨_, _, ⟨rfl, rfl⟩, ?_⟩
   rw [e0]
   exact ent_tau [0] ⟨by (repeat' first|exact fp|refine aN ?_ ?_), by (repeat' first|exact tm|refine aN ?_ ?_), rfl⟩
  ·have hne : t.trs = [] := by
    have hx2 : (bif !decide (((S : Nat) : Int) = 0) then true else nb) = false := hx
    have h0' : S = 0 := by
     apply Classical.byContradiction
     intro c
     rw [decide_eq_false (by omega)] at hx2
     cases hx2
    subst h0'
    have h2 : nb = false := hx2
    subst h2
    exact of_decide_eq_true hwn.symm
   have e0 : whoT t m = (0, false, 10) := by unfold whoT; rw [if_neg (by simpa using hv), if_neg (by rw [hB, hb]; decide), if_pos hne]
   (repeat' first|exact ap|refine aN ?_ ?_)
   all_goals first | exact om | skip
   ·exact fun o h => h
   refine (t47s 10 0).use [3] ?_ (by (repeat' first|exact fp|refine aN ?_ ?_)) rfl
   (repeat' first|exact ap|refine aN ?_ ?_)
   refine ⟨_, _, ⟨rfl, rfl⟩, ?_⟩
   rw [e0]
   exact ent_tau [0] ⟨by (repeat' first|exact fp|refine aN ?_ ?_), by (repeat' first|exact tm|refine aN ?_ ?_), rfl⟩
 ·refine ⟨ownB_ok rfl, ?_⟩
  have e0 : whoT t m = (0, false, 1) := by unfold whoT; rw [if_pos hv]
  (repeat' first|exact ap|refine aN ?_ ?_)
  refine (t47s 1 0).use [3] ?_ (by (repeat' first|exact fp|refine aN ?_ ?_)) rfl
  (repeat' first|exact ap|refine aN ?_ ?_)
  refine ⟨_, _, ⟨rfl, rfl⟩, ?_⟩
  rw [e0]
  exact ent_tau [0] ⟨by (repeat' first|exact fp|refine aN ?_ ?_), by (repeat' first|exact tm|refine aN ?_ ?_), rfl⟩
 ·refine ⟨ownB_ok rfl, ?_⟩
  have e0 : whoT t m = (0, false, 2) := by unfold whoT; rw [if_neg (by simpa using hv), if_pos (by rw [hB]; exact hb)]
  (repeat' first|exact ap|refine aN ?_ ?_)
  refine (t47s 2 0).use [3] ?_ (by (repeat' first|exact fp|refine aN ?_ ?_)) rfl
  (repeat' first|exact ap|refine aN ?_ ?_)
  refine ⟨_, _, ⟨rfl, rfl⟩, ?_⟩
  rw [e0]
  exact ent_tau [0] ⟨by (repeat' first|exact fp|refine aN ?_ ?_), by (repeat' first|exact tm|refine aN ?_ ?_), rfl⟩

end Go.Proofs.Ytioajogaghgipaa
/-
 Contract: can some of the tickets be so.
-/
namespace Go.Proofs.Ytioajogaghgipaa
open Go Go.Sy Tic
set_option linter.unusedSimpArgs false
set_option maxRecDepth 100000
set_option maxHeartbeats 4000000
attribute [local irreducible] CallP CodeP Ent YieldP
set_option maxHeartbeats 16000000

noncomputable def L90 (q : Nat) (st : LoopState) (p : Option Code) : SObj := .loopr ([none, none, none, some (.ptr q 0)] ++ List.replicate 6 none) #[9] (asOf Try.f90) (bodyOf Try.f90) st p
noncomputable def P90 (r : Bool) (st : LoopState) (p : Option Code) : List (Nat × SObj) := [(4, L90 5 st p), (5, .cells [.bool r])]
noncomputable def C90 (_ : Unit) (b : Bool) : OB := packR (P90 (!b) (bif b then .ready else .done) (bif b then none else some .ret))
noncomputable def HU90 (t : TK) (bo : Bool) (co : Nat) (r : Bool) (st : LoopState) (p : Option Code) : SHeap :=
 [some (.roa 5 t.n (TF t)), some (.roc [.int .i64 t.huts, .osl t.b 0 5 t.n t.cap, .osl bo 2 1 t.n co]), some (.roa 1 t.n (rowO (ord t))), some (.roc [.ptr 1 0]), some (L90 5 st p), some (.cells [.bool r]), some .dead, some .dead, some .dead, some .dead, some .dead, some .dead, some .dead]
theorem up90 (t : TK) (bo : Bool) (co : Nat) (x : Tru) : Ent 13 ⟨argT [.agg (trV x)], HI t bo co (C90 () true), []⟩ ⟨argT [.agg (trV x)], HU90 t bo co false .ready none, []⟩ :=
 entUnpack (n := 13) (T := argT [.agg (trV x)]) (H := HI t bo co (C90 () true)) (D := []) NS (P90 false .ready none) 4 rfl rfl rfl ⟨trivial, trivial, trivial⟩
theorem pk90 (t : TK) (bo : Bool) (co : Nat) (T : Tm) : Ent 13 ⟨T, HU90 t bo co true .done (some .ret), []⟩ ⟨T, HI t bo co (C90 () false), []⟩ :=
 entPack (n := 13) (T := T) (H := HU90 t bo co true .done (some .ret)) (D := []) NS (P90 true .done (some .ret)) 4 (by (repeat' first|exact fp|refine aN ?_ ?_)) rfl rfl
def step90 : Unit → Tru → Unit × Bool := fun _ _ => ((), false)
theorem run90 : ∀ l : List Tru, run step90 l () = ((), l.isEmpty)
 | [] => rfl
 | _ :: _ => rfl
theorem y90 (t : TK) (bo : Bool) (co : Nat) (g : Unit) (x : Tru) : YieldP Try.prog 4 [.agg (trV x)] (HI t bo co (C90 g true)) (Ret (.bool (step90 g x).2) (HI t bo co (C90 (step90 g x).1 (step90 g x).2))) := by
 refine YieldP.pre (up90 t bo co x) (show (4 : Nat) < 13 by decide) ?_
 refine YieldP.ent (roundP E_ok rfl rfl fun l => ?_)
 (repeat' first|exact ap|refine aN ?_ ?_)
 refine ⟨_, _, ⟨rfl, rfl⟩, ?_⟩
 refine Ent.trans ?_ (pk90 t bo co _)
 exact ent_tau [0, 1, 2, 3, 4, 5, 6, 7, 8, 9, 10, 11, 12] ⟨by (repeat' first|exact fp|refine aN ?_ ?_), by (repeat' first|exact tm|refine aN ?_ ?_), rfl⟩
noncomputable def G90 (t : TK) (bo : Bool) (co : Nat) (r : Bool) (st : LoopState) (p : Option Code) : SHeap := HQ t bo co ++ [some (.cells [.bool r]), some (.roc [.ptr 1 0]), some (L90 3 st p)]
def S90 : List Nat := [0, 1, 2, 4, 5, 3, 3, 3, 3, 3, 3, 3, 3]
noncomputable def GP90 (t : TK) (bo : Bool) (co : Nat) (ob : OB) : SHeap := HQ t bo co ++ [some .dead, some (.roc [.ptr 1 0]), some (.pack S90 ob)]
theorem r90 (t : TK) (hv : t.Valid) (bo : Bool) (co : Nat) (hbo : OrdV t bo co) : CallP Try.prog 103 [.yld 5, .ptr 4 0] (G90 t bo co false .ready none) (Ret (.tup []) (G90 t bo co (!t.trs.isEmpty) (bif t.trs.isEmpty then .ready else .done) (bif t.trs.isEmpty then none else some .ret))) := by
 have c := t103 t hv bo co hbo step90 C90 (fun g x _ => y90 t bo co g x) ()
 have hm : ∀ x, x ∈ t.trP t.ordL ↔ x ∈ t.trs := fun x => TK.mem_trP (TK.ordL_ok t)
 have hE : (t.trP t.ordL).isEmpty = t.trs.isEmpty := by
  rw [Bool.eq_iff_iff, List.isEmpty_iff, List.isEmpty_iff, List.eq_nil_iff_forall_not_mem, List.eq_nil_iff_forall_not_mem]
  exact ⟨fun H x hx => H x ((hm x).2 hx), fun H x hx => H x ((hm x).1 hx)⟩
 rw [run90, hE] at c
 obtain ⟨b, hb⟩ : ∃ b, t.trs.isEmpty = b := ⟨_, rfl⟩
 rw [hb] at c ⊢
 simp only at c
 have h1 : CallP Try.prog 103 [.yld 5, .ptr 4 0] (GP90 t bo co (C90 () true)) (Ret (.tup []) (GP90 t bo co (C90 () b))) := by
  refine c.use S90 ?_ (by (repeat' first|exact fp|refine aN ?_ ?_)) rfl
  exact ⟨rfl, rfl⟩
 refine CallP.pre (entPack (n := 6) (T := argT [.yld 5, .ptr 4 0]) (H := G90 t bo co false .ready none) (D := []) S90 (P90 false .ready none) 5 (by (repeat' first|exact fp|refine aN ?_ ?_)) rfl rfl) ?_
 refine CallP.entR h1 ?_
 cases b
 ·exact entUnpack (n := 6) (T := [some (none, .tup [])]) (H := GP90 t bo co (C90 () false)) (D := []) S90 (P90 true .done (some .ret)) 5 rfl rfl rfl ⟨trivial, trivial, trivial⟩
 ·exact entUnpack (n := 6) (T := [some (none, .tup [])]) (H := GP90 t bo co (C90 () true)) (D := []) S90 (P90 false .ready none) 5 rfl rfl rfl ⟨trivial, trivial, trivial⟩
theorem t90 (t : TK) (hv : t.Valid) (S : Nat) (hS : S < 2 ^ 64) : CallP Try.prog 90 [.int .u64 S, .ptr 1 0] (HB t) (Ret (.bool (t.can S)) (HB t)) := by
 have hn := hv.2.1
 have h4 := hv.1
 have c91 := t91 t hn S hS
 have hT := only_valid hv S
 have hu : (t.only S).huts = t.huts := rfl
 have hb : (t.only S).b = true := rfl
 have hc : (t.only S).cap = t.n := rfl
 have hcan : t.can S = !(t.only S).trs.isEmpty := rfl
 have c48 := t48 (t.only S) true (by have := hT.2.1; omega) ⟨by rw [hu]; omega, by rw [hu]; omega⟩
 obtain ⟨T, hTT⟩ : ∃ T, t.only S = T := ⟨_, rfl⟩
 rw [hTT] at c91 hT hu hb hc hcan c48
 refine CallP.mono (K := fun ce h' => ce = .ret (.bool (t.can S)) ∧ h' = HB t) ?_ (fun ce h' h => h)
 refine callMK (E := E) E_ok Try.func90 rfl ?_
 (repeat' first|exact ap|refine aN ?_ ?_)
 refine c91.use [0] ?_ (by (repeat' first|exact fp|refine aN ?_ ?_)) rfl
 (repeat' first|exact ap|refine aN ?_ ?_)
 refine CallP.argsD (args' := [.agg [.int .i64 T.huts, .osl T.b 3 5 T.n T.cap], .bool true]) (fun η => by rw [hu, hb, hc]; simp only [denL, den]; cases η 3 <;> rfl) ?_
 refine CallP.frame c48 [3] (by (repeat' first|exact fp|refine aN ?_ ?_)) (apartB_ok rfl) rfl ?_
 rintro ce h' (⟨_, _, h0, rfl, rfl⟩ | ⟨_, _, h0, c, hcc, rfl, rfl⟩ | ⟨hnv, rfl, rfl⟩ | ⟨_, hx, rfl, rfl⟩)
 ·refine ⟨ownB_ok rfl, ?_⟩
  have c90 := r90 T hT false 0 (.inl ⟨h0, rfl, rfl⟩)
  (repeat' first|exact ap|refine aN ?_ ?_)
  all_goals first | exact om | skip
  refine (t67c).use [4] ?_ (by (repeat' first|exact fp|refine aN ?_ ?_)) rfl
  (repeat' first|exact ap|refine aN ?_ ?_)
  refine rangeP E_ok rfl rfl ?_
  refine CallP.pre ((entCells (i := 4) (cs' := [.int .i64 T.huts, .osl T.b 3 5 T.n T.cap, .osl false 8 1 T.n 0]) rfl (fun η => by rw [h0]; simp [denL, den])).trans (entAlias (i := 0) rfl 1 (rowO (ord T)))) ?_
  rw [hcan]
  cases hE : T.trs.isEmpty
  ·rw [hE] at c90
   refine c90.use [3, 4, 8, 2, 5, 7] ?_ (by (repeat' first|exact fp|refine aN ?_ ?_); all_goals exact h0.symm) rfl
   refine ⟨by decide, ?_⟩
   refine codeP_ret ?_
   refine And.intro trivial ?_
   refine And.intro (fun o h => h) ?_
   refine And.intro ?_ ⟨_, _, ⟨rfl, rfl⟩, ?_⟩
   all_goals first | exact ent_tau [0, 1] ⟨by (repeat' first|exact fp|refine aN ?_ ?_), by (repeat' first|exact tm|refine aN ?_ ?_), rfl⟩ | simp [AllP, under, gB, wB, inR_iff, IntKind.bits]
  ·rw [hE] at c90
   refine c90.use [3, 4, 8, 2, 5, 7] ?_ (by (repeat' first|exact fp|refine aN ?_ ?_); all_goals exact h0.symm) rfl
   refine ⟨by decide, ?_⟩
   (repeat' first|exact ap|refine aN ?_ ?_)
   all_goals first | exact om | skip
   ·exact fun o h => h
   refine ⟨_, _, ⟨rfl, rfl⟩, ?_⟩
   exact ent_tau [0, 1] ⟨by (repeat' first|exact fp|refine aN ?_ ?_), by (repeat' first|exact tm|refine aN ?_ ?_), rfl⟩
 ·refine ⟨ownB_ok rfl, ?_⟩
  have c90 := r90 T hT true c (.inr ⟨h0, rfl, hcc.1⟩)
  (repeat' first|exact ap|refine aN ?_ ?_)
  all_goals first | exact om | skip
  refine (t67c).use [4] ?_ (by (repeat' first|exact fp|refine aN ?_ ?_)) rfl
  (repeat' first|exact ap|refine aN ?_ ?_)
  refine rangeP E_ok rfl rfl ?_
  refine CallP.pre (entCells (i := 4) (cs' := [.int .i64 T.huts, .osl T.b 3 5 T.n T.cap, .osl true 5 1 T.n c]) rfl (fun η => by simp [denL, den])) ?_
  rw [hcan]
  cases hE : T.trs.isEmpty
  ·rw [hE] at c90
   refine c90.use [3, 4, 5, 2, 6, 8] ?_ (by (repeat' first|exact fp|refine aN ?_ ?_)) rfl
   refine ⟨by decide, ?_⟩
   refine codeP_ret ?_
   refine And.intro trivial ?_
   refine And.intro (fun o h => h) ?_
   refine And.intro ?_ ⟨_, _, ⟨rfl, rfl⟩, ?_⟩
   all_goals first | exact ent_tau [0, 1] ⟨by (repeat' first|exact fp|refine aN ?_ ?_), by (repeat' first|exact tm|refine aN ?_ ?_), rfl⟩ | simp [AllP, under, gB, wB, inR_iff, IntKind.bits]
  ·rw [hE] at c90
   refine c90.use [3, 4, 5, 2, 6, 8] ?_ (by (repeat' first|exact fp|refine aN ?_ ?_)) rfl
   refine ⟨by decide, ?_⟩
   (repeat' first|exact ap|refine aN ?_ ?_)
   all_goals first | exact om | skip
   ·exact fun o h => h
   refine ⟨_, _, ⟨rfl, rfl⟩, ?_⟩
   exact ent_tau [0, 1] ⟨by (repeat' first|exact fp|refine aN ?_ ?_), by (repeat' first|exact tm|refine aN ?_ ?_), rfl⟩
 ·exact absurd hT hnv
 ·cases hx
end Go.Proofs.Ytioajogaghgipaa
/-
 Contract: ticket.Clash.
-/
namespace Go.Proofs.Ytioajogaghgipaa
open Go Go.Sy Tic
set_option linter.unusedSimpArgs false
set_option maxRecDepth 100000
set_option maxHeartbeats 4000000
attribute [local irreducible] CallP CodeP Ent YieldP
set_option maxHeartbeats 16000000

open Classical in
noncomputable def claT (t : TK) : Int × Int := if ¬ t.Valid then (0, 1) else if t.trs ≠ [] then (0, 4) else ((t.clash : Nat), 0)
theorem clash_found {t : TK} (hn : t.n ≤ 5) (h0 : t.trs = []) {S m : Nat} (hS : S < 2 ^ t.n) (hp : TK.pop S = m) (hc : t.can S = false) (h1 : ∀ T, T < 2 ^ t.n → t.can T = false → m ≤ TK.pop T) (h2 : ∀ T, T < S → TK.pop T = m → t.can T = true) : t.clash = S := by
 refine (TK.clash_is hn h0).uniq ⟨hS, hc, fun T hT hcT => ?_⟩
 have := h1 T hT hcT
 by_cases e : TK.pop T = m
 ·refine .inr ⟨by omega, ?_⟩
  rcases Nat.lt_or_ge T S with c | c
  ·rw [h2 T c e] at hcT
   cases hcT
  ·exact c
 ·exact .inl (by omega)
theorem can_all {t : TK} : t.can (2 ^ t.n - 1) = !t.trs.isEmpty := by
 rw [Bool.eq_iff_iff, TK.can_every, Bool.not_eq_true', ← Bool.not_eq_true, List.isEmpty_iff]
theorem pop_n_le {n : Nat} (hn : n ≤ 5) : TK.pop (2 ^ n - 1) ≤ n := by
 match n, hn with
 | 0, _ | 1, _ | 2, _ | 3, _ | 4, _ | 5, _ => decide +kernel
def H30 (t : TK) : SHeap := [some (.roa 5 t.n (TF t)), some (.cells (tb t)), some (.cells [.int .i64 0])]
theorem t30 (t : TK) (hn : t.n ≤ 1000000) (hh : InR .i64 t.huts) : CallP Try.prog 30 [TA t] (TH t) (Ret (.tup [.int .i64 (claT t).1, .int .i64 (claT t).2]) (TH t)) := by
 refine callD (E := E) E_ok Try.func30 rfl Try.func89 ⟨_, _, _, _, _, _, _, _, rfl, rfl, rfl⟩ rfl rfl ?_
 (repeat' first|exact ap|refine aN ?_ ?_)
 refine CallP.frame (t48 t true hn hh) [0] (by (repeat' first|exact fp|refine aN ?_ ?_)) (apartB_ok rfl) rfl ?_
 rintro ce h' (⟨hv, hb, h0, rfl, rfl⟩ | ⟨hv, hb, h0, c, hc, rfl, rfl⟩ | ⟨hv, rfl, rfl⟩ | ⟨hv, hb, rfl, rfl⟩)
 ·refine ⟨ownB_ok rfl, ?_⟩
  have hn5 := hv.2.1
  have pk := pow_int t.n
  have p1 := Nat.pow_pos (n := t.n) (show 0 < 2 by omega)
  have p2 : 2 ^ t.n ≤ 2 ^ 5 := Nat.pow_le_pow_right (by omega) hn5
  have pe : (1 : Int) * 2 ^ ((t.n : Nat) : Int).toNat - 1 = ((2 ^ t.n - 1 : Nat) : Int) := by
   rw [pk]
   omega
  have pk0 : (0 : Int) ≤ 1 * 2 ^ ((t.n : Nat) : Int).toNat := by rw [pk]; exact Int.natCast_nonneg _
  have pk1 : (1 : Int) * 2 ^ ((t.n : Nat) : Int).toNat ≤ 18446744073709551615 := by rw [pk]; omega
  have pe0 : (0 : Int) ≤ 1 * 2 ^ ((t.n : Nat) : Int).toNat - 1 := by rw [pe]; exact Int.natCast_nonneg _
  have pe1 : (1 : Int) * 2 ^ ((t.n : Nat) : Int).toNat - 1 ≤ 18446744073709551615 := by rw [pe]; omega
  have h64 : ((t.n : Nat) : Int) < ((IntKind.bits .u64 : Nat) : Int) := by
   show ((t.n : Nat) : Int) < 64
   omega
  have c90 := t90 t hv (2 ^ t.n - 1) (by omega)
  rw [can_all, ← pe] at c90
  (repeat' first|exact ap|refine aN ?_ ?_)
  all_goals first | exact om | skip
  all_goals first | exact u0 h64 | exact pk0 | exact pk1 | exact pe0 | exact pe1 | skip
  have hne := valid0 hv h0
  have hE : t.trs.isEmpty = false := by
   cases h : t.trs with
   | nil => exact absurd h hne
   | cons x l => rfl
  rw [hE] at c90
  refine c90.use [0, 1] ?_ (by (repeat' first|exact fp|refine aN ?_ ?_)) rfl
  (repeat' first|exact ap|refine aN ?_ ?_)
  all_goals first | exact om | skip
  refine must (fun hx => ?_) (fun hx => ?_)
  ·cases hx
  ·have e0 : claT t = (0, 4) := by unfold claT; rw [if_neg (by simpa using hv), if_pos hne]
   (repeat' first|exact ap|refine aN ?_ ?_)
   refine (t47s 4 0).use [2] ?_ (by (repeat' first|exact fp|refine aN ?_ ?_)) rfl
   (repeat' first|exact ap|refine aN ?_ ?_)
   refine ⟨_, _, ⟨rfl, rfl⟩, ?_⟩
   rw [e0]
   exact ent_tau [0] ⟨by (repeat' first|exact fp|refine aN ?_ ?_), by (repeat' first|exact tm|refine aN ?_ ?_), rfl⟩
 ·refine ⟨ownB_ok rfl, ?_⟩
  have hn5 := hv.2.1
  have pk := pow_int t.n
  have p1 := Nat.pow_pos (n := t.n) (show 0 < 2 by omega)
  have p2 : 2 ^ t.n ≤ 2 ^ 5 := Nat.pow_le_pow_right (by omega) hn5
  have pe : (1 : Int) * 2 ^ ((t.n : Nat) : Int).toNat - 1 = ((2 ^ t.n - 1 : Nat) : Int) := by
   rw [pk]
   omega
  have pk0 : (0 : Int) ≤ 1 * 2 ^ ((t.n : Nat) : Int).toNat := by rw [pk]; exact Int.natCast_nonneg _
  have pk1 : (1 : Int) * 2 ^ ((t.n : Nat) : Int).toNat ≤ 18446744073709551615 := by rw [pk]; omega
  have pe0 : (0 : Int) ≤ 1 * 2 ^ ((t.n : Nat) : Int).toNat - 1 := by rw [pe]; exact Int.natCast_nonneg _
  have pe1 : (1 : Int) * 2 ^ ((t.n : Nat) : Int).toNat - 1 ≤ 18446744073709551615 := by rw [pe]; omega
  have h64 : ((t.n : Nat) : Int) < ((IntKind.bits .u64 : Nat) : Int) := by
   show ((t.n : Nat) : Int) < 64
   omega
  have c90 := t90 t hv (2 ^ t.n - 1) (by omega)
  rw [can_all, ← pe] at c90
  (repeat' first|exact ap|refine aN ?_ ?_)
  all_goals first | exact om | skip
  all_goals first | exact u0 h64 | exact pk0 | exact pk1 | exact pe0 | exact pe1 | skip
  cases hE : t.trs.isEmpty with
  | false =>
   have hne : t.trs ≠ [] := fun e => by rw [e] at hE; cases hE
   rw [hE] at c90
   refine c90.use [0, 1] ?_ (by (repeat' first|exact fp|refine aN ?_ ?_)) rfl
   (repeat' first|exact ap|refine aN ?_ ?_)
   all_goals first | exact om | skip
   refine must (fun hx => ?_) (fun hx => ?_)
   ·cases hx
   ·have e0 : claT t = (0, 4) := by unfold claT; rw [if_neg (by simpa using hv), if_pos hne]
    (repeat' first|exact ap|refine aN ?_ ?_)
    refine (t47s 4 0).use [2] ?_ (by (repeat' first|exact fp|refine aN ?_ ?_)) rfl
    (repeat' first|exact ap|refine aN ?_ ?_)
    refine ⟨_, _, ⟨rfl, rfl⟩, ?_⟩
    rw [e0]
    exact ent_tau [0] ⟨by (repeat' first|exact fp|refine aN ?_ ?_), by (repeat' first|exact tm|refine aN ?_ ?_), rfl⟩
  | true =>
   have hne : t.trs = [] := List.isEmpty_iff.1 hE
   have hev : t.can (2 ^ t.n - 1) = false := by rw [can_all, hE]; rfl
   have hpe := TK.pop_most hn5 (S := 2 ^ t.n - 1) (by omega)
   rw [hE] at c90
   refine c90.use [0, 1] ?_ (by (repeat' first|exact fp|refine aN ?_ ?_)) rfl
   (repeat' first|exact ap|refine aN ?_ ?_)
   all_goals first | exact om | skip
   refine must (fun hx => ?_) (fun hx => ?_)
   ·(repeat' first|exact ap|refine aN ?_ ?_)
    all_goals first | exact om | skip
    refine loopP E_ok [1, 3, 5, 25] (fun m : Nat => [(4, .int .u64 (2 ^ t.n - 1 : Nat)), (26, .int .i64 m)]) (fun _ _ => H30 t) (fun m => m ≤ t.n + 1 ∧ ∀ T, T < 2 ^ t.n → t.can T = false → m ≤ TK.pop T) (fun m => t.n + 1 - m) 0 ⟨Nat.zero_le _, fun T _ _ => Nat.zero_le _⟩ ?_ ?_
    ·refine ent_tau [0, 1, 2] ⟨by (repeat' first|exact fp|refine aN ?_ ?_), ?_, rfl⟩
     (repeat' first|exact tm|refine aN ?_ ?_)
     all_goals exact congrArg (SV.int .u64) pe
    rintro m ⟨hm, hlo⟩
    refine And.intro ?_ (And.intro (fun hc2 => ?_) (fun hc2 => ?_))
    ·(repeat' first|exact ap|refine aN ?_ ?_)
    ·have hmn : m ≤ t.n := by
      have := of_decide_eq_true hc2
      omega
     have pq : ((2 ^ t.n - 1 : Nat) : Int) + 1 = ((2 ^ t.n : Nat) : Int) := by omega
     (repeat' first|exact ap|refine aN ?_ ?_)
     all_goals first | exact om | skip
     refine loopP E_ok [1, 3, 4, 5, 6, 25, 26] (fun T : Nat => [(30, .int .u64 (2 ^ t.n : Nat)), (31, .int .u64 T)]) (fun _ _ => H30 t) (fun T => T ≤ 2 ^ t.n ∧ ∀ U, U < T → TK.pop U = m → t.can U = true) (fun T => 2 ^ t.n - T) 0 ⟨Nat.zero_le _, fun U hU => absurd hU (Nat.not_lt_zero U)⟩ ?_ ?_
     ·refine ent_tau [0, 1, 2] ⟨by (repeat' first|exact fp|refine aN ?_ ?_), ?_, rfl⟩
      (repeat' first|exact tm|refine aN ?_ ?_)
      all_goals exact congrArg (SV.int .u64) pq
     rintro T ⟨hT, hup⟩
     refine And.intro ?_ (And.intro (fun hc3 => ?_) (fun hc3 => ?_))
     ·(repeat' first|exact ap|refine aN ?_ ?_)
     ·have hTn : T < 2 ^ t.n := by
       have := of_decide_eq_true hc3
       omega
      have c84 := t84 T (by omega)
      have c90 := t90 t hv T (by omega)
      have hp5 := TK.pop_le5 T
      (repeat' first|exact ap|refine aN ?_ ?_)
      all_goals first | exact om | skip
      refine c84.use [] ?_ trivial rfl
      by_cases e : TK.pop T = m
      ·have e' : decide (((TK.pop T : Nat) : Int) = ((m : Nat) : Int)) = true := decide_eq_true (by rw [e])
       have cc : t.can T = true ∨ t.can T = false := by cases t.can T <;> simp
       rcases cc with hcT | hcT
       ·rw [hcT] at c90
        all_goals (repeat' first|exact ap|refine aN ?_ ?_)
        all_goals first | exact om | skip
        all_goals intro g1
        all_goals first | (exfalso; revert g1; simp [gB, wB, e', e]; done) | skip
        refine c90.use [0, 1] ?_ (by (repeat' first|exact fp|refine aN ?_ ?_)) rfl
        (repeat' first|exact ap|refine aN ?_ ?_)
        all_goals first | exact om | skip
        all_goals first | exact fun _ => g1 | exact fun _ _ => g1 | skip
        all_goals (repeat' first|exact ap|refine aN ?_ ?_)
        all_goals first | exact gd | skip
        all_goals intro h4
        all_goals first | (exfalso; revert h4; simp [gB, wB, e', e]; done) | skip
        (repeat' first|exact ap|refine aN ?_ ?_)
        all_goals first | exact om | skip
        refine ⟨T + 1, ⟨hTn, fun U hU hpU => ?_⟩, by omega, ?_⟩
        ·rcases Nat.lt_succ_iff_lt_or_eq.1 hU with d | rfl
         ·exact hup U d hpU
         ·exact hcT
        exact ent_tau [0, 1, 2] ⟨by (repeat' first|exact fp|refine aN ?_ ?_), by (repeat' first|exact tm|refine aN ?_ ?_), rfl⟩
       ·have hfound := clash_found hn5 hne hTn e hcT hlo hup
        have e0 : claT t = (((T : Nat) : Int), 0) := by unfold claT; rw [if_neg (by simpa using hv), if_neg (by simpa using hne), hfound]
        rw [hcT] at c90
        all_goals (repeat' first|exact ap|refine aN ?_ ?_)
        all_goals first | exact om | skip
        all_goals intro g1
        all_goals first | (exfalso; revert g1; simp [gB, wB, e', e]; done) | skip
        refine c90.use [0, 1] ?_ (by (repeat' first|exact fp|refine aN ?_ ?_)) rfl
        (repeat' first|exact ap|refine aN ?_ ?_)
        all_goals first | exact om | skip
        all_goals first | exact fun _ => g1 | exact fun _ _ => g1 | skip
        all_goals (repeat' first|exact ap|refine aN ?_ ?_)
        all_goals first | exact gd | skip
        all_goals intro h4
        all_goals first | (exfalso; revert h4; simp [gB, wB, e', e]; done) | skip
        (repeat' first|exact ap|refine aN ?_ ?_)
        all_goals first | exact om | skip
        refine (t47n 0).use [2] ?_ (by (repeat' first|exact fp|refine aN ?_ ?_)) rfl
        (repeat' first|exact ap|refine aN ?_ ?_)
        refine ⟨_, _, ⟨rfl, rfl⟩, ?_⟩
        rw [e0]
        exact ent_tau [0] ⟨by (repeat' first|exact fp|refine aN ?_ ?_), by (repeat' first|exact tm|refine aN ?_ ?_), rfl⟩
      ·have e' : decide (((TK.pop T : Nat) : Int) = ((m : Nat) : Int)) = false := decide_eq_false (by omega)
       all_goals (repeat' first|exact ap|refine aN ?_ ?_)
       all_goals first | exact om | skip
       all_goals intro g1
       all_goals first | (exfalso; revert g1; simp [gB, wB, e', e]; done) | skip
       all_goals (repeat' first|exact ap|refine aN ?_ ?_)
       all_goals first | exact gd | skip
       all_goals intro h4
       all_goals first | (exfalso; revert h4; simp [gB, wB, e', e]; done) | skip
       (repeat' first|exact ap|refine aN ?_ ?_)
       all_goals first | exact om | skip
       refine ⟨T + 1, ⟨hTn, fun U hU hpU => ?_⟩, by omega, ?_⟩
       ·rcases Nat.lt_succ_iff_lt_or_eq.1 hU with d | rfl
        ·exact hup U d hpU
        ·exact absurd hpU e
       exact ent_tau [0, 1, 2] ⟨by (repeat' first|exact fp|refine aN ?_ ?_), by (repeat' first|exact tm|refine aN ?_ ?_), rfl⟩
     ·have eT : T = 2 ^ t.n := by
       have := of_decide_eq_false hc3
       omega
      subst eT
      (repeat' first|exact ap|refine aN ?_ ?_)
      all_goals first | exact om | skip
      refine ⟨m + 1, ⟨by omega, fun U hU hcU => ?_⟩, by omega, ?_⟩
      ·have h1 := hlo U hU hcU
       rcases Nat.lt_or_ge m (TK.pop U) with d | d
       ·exact d
       ·have := hup U hU (by omega)
        rw [hcU] at this
        cases this
      exact ent_tau [0, 1, 2] ⟨by (repeat' first|exact fp|refine aN ?_ ?_), by (repeat' first|exact tm|refine aN ?_ ?_), rfl⟩
    ·exfalso
     have h1 := of_decide_eq_false hc2
     have h2 := hlo (2 ^ t.n - 1) (by omega) hev
     have h3 := pop_n_le hn5
     omega
   ·cases hx
 ·refine ⟨ownB_ok rfl, ?_⟩
  have e0 : claT t = (0, 1) := by unfold claT; rw [if_pos hv]
  (repeat' first|exact ap|refine aN ?_ ?_)
  refine (t47s 1 0).use [2] ?_ (by (repeat' first|exact fp|refine aN ?_ ?_)) rfl
  (repeat' first|exact ap|refine aN ?_ ?_)
  refine ⟨_, _, ⟨rfl, rfl⟩, ?_⟩
  rw [e0]
  exact ent_tau [0] ⟨by (repeat' first|exact fp|refine aN ?_ ?_), by (repeat' first|exact tm|refine aN ?_ ?_), rfl⟩
 ·cases hb
end Go.Proofs.Ytioajogaghgipaa
/-
 The example's tickets.
-/
namespace Go.Proofs.Ytioajogaghgipaa
open Go Go.Sy Tic
set_option linter.unusedSimpArgs false
set_option maxRecDepth 100000
set_option maxHeartbeats 4000000
attribute [local irreducible] CallP CodeP Ent YieldP
set_option maxHeartbeats 16000000

def exT (d : Int) : TK := ⟨2, 3, fun k => [0, 2, 3].getD k 0, fun k => [0, 3, 4].getD k 0, fun k => [0, 1, 0].getD k 0, fun k => [10, 8, d].getD k 0, fun k => [11, 8, d + 1].getD k 0, true, 3⟩
theorem ex40_valid : (exT 40).Valid := by
 unfold TK.Valid TK.okT spanOk exT
 decide
theorem ex38_valid : (exT 38).Valid := by
 unfold TK.Valid TK.okT spanOk exT
 decide
theorem ex40_ne : (exT 40).trs ≠ [] := by
 have : (exT 40).trs.isEmpty = false := by decide +kernel
 intro e
 rw [e] at this
 cases this
theorem ex38_nil : (exT 38).trs = [] := by
 have : (exT 38).trs.isEmpty = true := by decide +kernel
 exact List.isEmpty_iff.1 this
theorem turn_is {t : TK} (hv : t.Valid) (hne : t.trs ≠ []) (i : Nat) (hi : i < t.n) : turnT t i = (t.turn i, 0) := by
 unfold turnT
 rw [if_neg (by simpa using hv), if_neg (by rw [inI_iff.2 ⟨by omega, by omega⟩]; decide), if_neg hne, Int.toNat_natCast]
theorem min_is {t : TK} (hv : t.Valid) (hne : t.trs ≠ []) (i : Nat) (hi : i < t.n) : minT t i = ((t.bought i, t.door i), 0) := by
 unfold minT
 rw [if_neg (by simpa using hv), if_neg (by rw [inI_iff.2 ⟨by omega, by omega⟩]; decide), if_neg hne, Int.toNat_natCast]
theorem pas_is {t : TK} (hv : t.Valid) (hne : t.trs ≠ []) (i : Nat) (hi : i < t.n) : pasT t i = (((t.surely i : Nat) : Int), ((t.perhaps i : Nat) : Int), 0) := by
 unfold pasT
 rw [if_neg (by simpa using hv), if_neg (by rw [inI_iff.2 ⟨by omega, by omega⟩]; decide), if_neg hne, Int.toNat_natCast]
theorem who_is {t : TK} (hv : t.Valid) (hne : t.trs ≠ []) (m : Int) (hm : 0 ≤ m ∧ m ≤ 240) : whoT t m = (((t.whose m : Nat) : Int), t.nobody m, 0) := by
 unfold whoT
 rw [if_neg (by simpa using hv), if_neg (by rw [inI_iff.2 hm]; decide), if_neg hne]
theorem fre_is {t : TK} (hv : t.Valid) (hne : t.trs ≠ []) (h m : Int) (hh : 0 ≤ h ∧ h ≤ t.huts - 1) (hm : 0 ≤ m ∧ m ≤ 240) : freT t h m = (t.freeT h m, 0) := by
 unfold freT
 rw [if_neg (by simpa using hv), if_neg (by rw [inI_iff.2 hh, inI_iff.2 hm]; decide), if_neg hne]
theorem sp_is {t : TK} (hv : t.Valid) (hne : t.trs ≠ []) (s : Int × Int) : spT t s = (s.1, s.2, 0) := by
 unfold spT
 rw [if_neg (by simpa using hv), if_neg hne]
theorem cla_none {t : TK} (hv : t.Valid) (hne : t.trs ≠ []) : claT t = (0, 4) := by
 unfold claT
 rw [if_neg (by simpa using hv), if_pos hne]
theorem cla_is {t : TK} (hv : t.Valid) (h0 : t.trs = []) : claT t = (((t.clash : Nat) : Int), 0) := by
 unfold claT
 rw [if_neg (by simpa using hv), if_neg (by simpa using h0)]
theorem exMin : minT (exT 40) 2 = (((3, 4), (40, 41)), 0) := by
 refine (min_is ex40_valid ex40_ne 2 (by decide)).trans ?_
 decide +kernel
theorem exTurn1 : turnT (exT 40) 1 = (0, 0) := by
 refine (turn_is ex40_valid ex40_ne 1 (by decide)).trans ?_
 decide +kernel
theorem exTurn0 : turnT (exT 40) 0 = (2, 0) := by
 refine (turn_is ex40_valid ex40_ne 0 (by decide)).trans ?_
 decide +kernel
theorem exPas1 : pasT (exT 40) 1 = (1, 1, 0) := by
 refine (pas_is ex40_valid ex40_ne 1 (by decide)).trans ?_
 decide +kernel
theorem exWho11 : whoT (exT 40) 11 = (5, false, 0) := by
 refine (who_is ex40_valid ex40_ne 11 (by decide)).trans ?_
 decide +kernel
theorem exFre : freT (exT 40) 0 40 = (1, 0) := by
 refine (fre_is ex40_valid ex40_ne 0 40 (by decide) (by decide)).trans ?_
 decide +kernel
theorem exWai : spT (exT 40) (exT 40).waits = (36, 38, 0) := by
 refine (sp_is ex40_valid ex40_ne _).trans ?_
 decide +kernel
theorem exBus : spT (exT 40) (exT 40).busy = (2, 2, 0) := by
 refine (sp_is ex40_valid ex40_ne _).trans ?_
 decide +kernel
theorem exWro : spT (exT 40) (exT 40).wrong = (1, 1, 0) := by
 refine (sp_is ex40_valid ex40_ne _).trans ?_
 decide +kernel
theorem exCla : claT (exT 38) = (5, 0) := by
 refine (cla_is ex38_valid ex38_nil).trans ?_
 decide +kernel
theorem t33 (a b : Int) : CallP Try.prog 33 [.int .i64 a, .int .i64 b] [] (Ret (.agg [.int .i64 a, .int .i64 b]) []) := by
 refine callR (E := E) E_ok Try.func33 rfl ?_
 (repeat' first|exact ap|refine aN ?_ ?_)
 exact ent_tau [] ⟨by (repeat' first|exact fp|refine aN ?_ ?_), by (repeat' first|exact tm|refine aN ?_ ?_), rfl⟩
theorem t42 (a b h c d : Int) : CallP Try.prog 42 [.int .i64 a, .int .i64 b, .int .i64 h, .int .i64 c, .int .i64 d] [] (Ret (.agg [.int .i64 a, .int .i64 b, .int .i64 h, .int .i64 c, .int .i64 d]) []) := by
 refine callR (E := E) E_ok Try.func42 rfl ?_
 (repeat' first|exact ap|refine aN ?_ ?_)
 refine (t33 a b).use [] ?_ trivial rfl
 (repeat' first|exact ap|refine aN ?_ ?_)
 refine (t33 c d).use [] ?_ trivial rfl
 (repeat' first|exact ap|refine aN ?_ ?_)
 exact ent_tau [] ⟨by (repeat' first|exact fp|refine aN ?_ ?_), by (repeat' first|exact tm|refine aN ?_ ?_), rfl⟩
theorem three {P : Nat → Prop} (h0 : P 0) (h1 : P 1) (h2 : P 2) : ∀ k, k < 3 → P k
 | 0, _ => h0
 | 1, _ => h1
 | 2, _ => h2
 | k + 3, h => absurd h (by omega)
theorem t32 (d : Int) (hd : 0 ≤ d ∧ d ≤ 100) : CallP Try.prog 32 [.int .i64 d] [] (Ret (TA (exT d)) [some (.arr 5 3 3 (TF (exT d)))]) := by
 refine callR (E := E) E_ok Try.func32 rfl ?_
 (repeat' first|exact ap|refine aN ?_ ?_)
 refine (t42 _ _ _ _ _).use [] ?_ trivial rfl
 (repeat' first|exact ap|refine aN ?_ ?_)
 refine (t42 _ _ _ _ _).use [] ?_ trivial rfl
 (repeat' first|exact ap|refine aN ?_ ?_)
 all_goals first | exact om | skip
 refine (t42 _ _ _ _ _).use [] ?_ trivial rfl
 (repeat' first|exact ap|refine aN ?_ ?_)
 all_goals first | exact om | skip
 refine Ent.trans (ent_tau (t := ⟨[some (none, .agg [.int .i64 2, .slice 0 5 0 3 3])], [some (.arr 5 3 3 (TF (exT d)))], []⟩) [1] ⟨?_, by (repeat' first|exact tm|refine aN ?_ ?_), rfl⟩) (entV fun η => by simp [den, denL, TA, exT])
 (repeat' first|exact fp|refine aN ?_ ?_)
 exact three rfl rfl rfl
def exF (d : Int) : SHeap := [some (.roa 5 3 (TF (exT d)))]
def exV : SV := .agg [.int .i64 2, .osl true 0 5 3 3]
theorem xc14 : CallP Try.prog 14 [exV, .int .i64 2] (exF 40) (Ret (.tup [.agg [.int .i64 3, .int .i64 4], .agg [.int .i64 40, .int .i64 41], .int .i64 0]) (exF 40)) := by
 have := t14 (exT 40) (by decide) ⟨by decide, by decide⟩ 2
 rw [exMin] at this
 exact this
theorem xc16 : CallP Try.prog 16 [exV, .int .i64 1] (exF 40) (Ret (.tup [.int .i64 0, .int .i64 0]) (exF 40)) := by
 have := t16 (exT 40) (by decide) ⟨by decide, by decide⟩ 1
 rw [exTurn1] at this
 exact this
theorem xc18 : CallP Try.prog 18 [exV, .int .i64 1] (exF 40) (Ret (.tup [.int .i64 1, .int .i64 1, .int .i64 0]) (exF 40)) := by
 have := t18 (exT 40) (by decide) ⟨by decide, by decide⟩ 1
 rw [exPas1] at this
 exact this
theorem xc20 : CallP Try.prog 20 [exV, .int .i64 11] (exF 40) (Ret (.tup [.int .i64 5, .bool false, .int .i64 0]) (exF 40)) := by
 have := t20 (exT 40) (by decide) ⟨by decide, by decide⟩ 11
 rw [exWho11] at this
 exact this
theorem xc22 : CallP Try.prog 22 [exV, .int .i64 0, .int .i64 40] (exF 40) (Ret (.tup [.int .i64 1, .int .i64 0]) (exF 40)) := by
 have := t22 (exT 40) (by decide) ⟨by decide, by decide⟩ 0 40
 rw [exFre] at this
 exact this
theorem xc24 : CallP Try.prog 24 [exV] (exF 40) (Ret (.tup [.agg [.int .i64 36, .int .i64 38], .int .i64 0]) (exF 40)) := by
 have := t24 (exT 40) (by decide) ⟨by decide, by decide⟩ 
 rw [exWai] at this
 exact this
theorem xc26 : CallP Try.prog 26 [exV] (exF 40) (Ret (.tup [.agg [.int .i64 2, .int .i64 2], .int .i64 0]) (exF 40)) := by
 have := t26 (exT 40) (by decide) ⟨by decide, by decide⟩ 
 rw [exBus] at this
 exact this
theorem xc28 : CallP Try.prog 28 [exV] (exF 40) (Ret (.tup [.agg [.int .i64 1, .int .i64 1], .int .i64 0]) (exF 40)) := by
 have := t28 (exT 40) (by decide) ⟨by decide, by decide⟩ 
 rw [exWro] at this
 exact this
theorem xc30 : CallP Try.prog 30 [exV] (exF 38) (Ret (.tup [.int .i64 5, .int .i64 0]) (exF 38)) := by
 have := t30 (exT 38) (by decide) ⟨by decide, by decide⟩ 
 rw [exCla] at this
 exact this
theorem xc160 : CallP Try.prog 16 [exV, .int .i64 0] (exF 40) (Ret (.tup [.int .i64 2, .int .i64 0]) (exF 40)) := by
 have := t16 (exT 40) (by decide) ⟨by decide, by decide⟩ 0
 rw [exTurn0] at this
 exact this
theorem t13 : CallP Try.prog 13 [] [] (Ret (.bool true) []) := by
 have s40 := t32 40 (by decide)
 have s38 := t32 38 (by decide)
 refine callR (E := E) E_ok Try.func13 rfl ?_
 (repeat' first|exact ap|refine aN ?_ ?_)
 refine s40.use [] ?_ trivial rfl
 (repeat' first|exact ap|refine aN ?_ ?_)
 refine xc14.use [0] ?_ (by (repeat' first|exact fp|refine aN ?_ ?_)) rfl
 (repeat' first|exact ap|refine aN ?_ ?_)
 refine s40.use [] ?_ trivial rfl
 (repeat' first|exact ap|refine aN ?_ ?_)
 refine xc16.use [3] ?_ (by (repeat' first|exact fp|refine aN ?_ ?_)) rfl
 (repeat' first|exact ap|refine aN ?_ ?_)
 refine s40.use [] ?_ trivial rfl
 (repeat' first|exact ap|refine aN ?_ ?_)
 refine xc18.use [4] ?_ (by (repeat' first|exact fp|refine aN ?_ ?_)) rfl
 (repeat' first|exact ap|refine aN ?_ ?_)
 refine s40.use [] ?_ trivial rfl
 (repeat' first|exact ap|refine aN ?_ ?_)
 refine xc20.use [5] ?_ (by (repeat' first|exact fp|refine aN ?_ ?_)) rfl
 (repeat' first|exact ap|refine aN ?_ ?_)
 refine s40.use [] ?_ trivial rfl
 (repeat' first|exact ap|refine aN ?_ ?_)
 refine xc22.use [6] ?_ (by (repeat' first|exact fp|refine aN ?_ ?_)) rfl
 (repeat' first|exact ap|refine aN ?_ ?_)
 refine s40.use [] ?_ trivial rfl
 (repeat' first|exact ap|refine aN ?_ ?_)
 refine xc24.use [7] ?_ (by (repeat' first|exact fp|refine aN ?_ ?_)) rfl
 (repeat' first|exact ap|refine aN ?_ ?_)
 refine s40.use [] ?_ trivial rfl
 (repeat' first|exact ap|refine aN ?_ ?_)
 refine xc26.use [9] ?_ (by (repeat' first|exact fp|refine aN ?_ ?_)) rfl
 (repeat' first|exact ap|refine aN ?_ ?_)
 refine s40.use [] ?_ trivial rfl
 (repeat' first|exact ap|refine aN ?_ ?_)
 refine xc28.use [11] ?_ (by (repeat' first|exact fp|refine aN ?_ ?_)) rfl
 (repeat' first|exact ap|refine aN ?_ ?_)
 refine s38.use [] ?_ trivial rfl
 (repeat' first|exact ap|refine aN ?_ ?_)
 refine xc30.use [13] ?_ (by (repeat' first|exact fp|refine aN ?_ ?_)) rfl
 (repeat' first|exact ap|refine aN ?_ ?_)
 refine s40.use [] ?_ trivial rfl
 (repeat' first|exact ap|refine aN ?_ ?_)
 refine xc160.use [14] ?_ (by (repeat' first|exact fp|refine aN ?_ ?_)) rfl
 (repeat' first|exact ap|refine aN ?_ ?_)
 refine cutP [] [(1, .ptr 0 0), (2, .ptr 1 0), (3, .int .i64 0), (4, .int .i64 0), (5, .int .i64 0), (6, .int .i64 1), (7, .int .i64 1), (8, .int .i64 0), (9, .int .i64 5), (10, .bool false), (11, .int .i64 0), (12, .int .i64 1), (13, .int .i64 0), (14, .ptr 2 0), (15, .int .i64 0), (16, .ptr 3 0), (17, .int .i64 0), (18, .ptr 4 0), (19, .int .i64 0), (20, .int .i64 5), (21, .int .i64 0), (22, .int .i64 2), (23, .int .i64 0)] (fun _ => [some (.cells [.int .i64 3, .int .i64 4]), some (.cells [.int .i64 40, .int .i64 41]), some (.cells [.int .i64 36, .int .i64 38]), some (.cells [.int .i64 2, .int .i64 2]), some (.cells [.int .i64 1, .int .i64 1])]) ?_ ?_
 ·refine ent_tau [1, 2, 8, 10, 12] ⟨?_, by (repeat' first|exact tm|refine aN ?_ ?_), rfl⟩
  (repeat' first|exact fp|refine aN ?_ ?_)
 refine drawP E_ok [0, 1, 2, 3, 4] pl13_11 (by kernel_rfl) ?_
 refine And.intro (And.intro ?_ ?_) trivial
 ·(repeat' first|exact ap|refine aN ?_ ?_)
 refine (t33 3 4).use [] ?_ (by (repeat' first|exact fp|refine aN ?_ ?_)) rfl
 refine And.intro (And.intro ?_ (And.intro (fun h => ?_) (fun h => absurd h (by decide)))) trivial
 ·(repeat' first|exact ap|refine aN ?_ ?_)
 refine (t33 40 41).use [] ?_ (by (repeat' first|exact fp|refine aN ?_ ?_)) rfl
 refine And.intro (And.intro ?_ (And.intro (fun h => ?_) (fun h => absurd h (by decide)))) trivial
 ·(repeat' first|exact ap|refine aN ?_ ?_)
 refine (t33 36 38).use [] ?_ (by (repeat' first|exact fp|refine aN ?_ ?_)) rfl
 refine And.intro (And.intro ?_ (And.intro (fun h => ?_) (fun h => absurd h (by decide)))) trivial
 ·(repeat' first|exact ap|refine aN ?_ ?_)
 refine (t33 2 2).use [] ?_ (by (repeat' first|exact fp|refine aN ?_ ?_)) rfl
 refine And.intro (And.intro ?_ (And.intro (fun h => ?_) (fun h => absurd h (by decide)))) trivial
 ·(repeat' first|exact ap|refine aN ?_ ?_)
 refine (t33 1 1).use [] ?_ (by (repeat' first|exact fp|refine aN ?_ ?_)) rfl
 (repeat' first|exact ap|refine aN ?_ ?_)
 exact ent_tau [] ⟨by (repeat' first|exact fp|refine aN ?_ ?_), by (repeat' first|exact tm|refine aN ?_ ?_), rfl⟩
end Go.Proofs.Ytioajogaghgipaa
/-
 TicketClash: sets as signed numbers; do some tickets clash.
-/
namespace Go.Proofs.Ytioajogaghgipaa
open Go Go.Sy Tic
set_option linter.unusedSimpArgs false
set_option maxRecDepth 100000
set_option maxHeartbeats 4000000
attribute [local irreducible] CallP CodeP Ent YieldP
set_option maxHeartbeats 16000000

def sdiff (a b : Nat) : Nat := (BitVec.ofNat 64 a &&& ~~~BitVec.ofNat 64 b).toNat
theorem sdiff_bit {a b i : Nat} (hi : i < 64) : (sdiff a b).testBit i = (a.testBit i && !b.testBit i) := by
 have e : (sdiff a b).testBit i = (BitVec.ofNat 64 a &&& ~~~BitVec.ofNat 64 b).getLsbD i := rfl
 rw [e, BitVec.getLsbD_and, BitVec.getLsbD_not, BitVec.getLsbD_ofNat, BitVec.getLsbD_ofNat]
 simp [hi]
theorem sdiff_lt {a b n : Nat} (ha : a < 2 ^ n) : sdiff a b < 2 ^ n := by
 refine Nat.lt_pow_two_of_testBit _ fun i hi => ?_
 by_cases h : i < 64
 ·rw [sdiff_bit h, Nat.testBit_lt_two_pow (Nat.lt_of_lt_of_le ha (Nat.pow_le_pow_right (by omega) hi))]
  rfl
 ·have e : sdiff a b < 2 ^ 64 := (BitVec.ofNat 64 a &&& ~~~BitVec.ofNat 64 b).isLt
  exact Nat.testBit_lt_two_pow (Nat.lt_of_lt_of_le e (Nat.pow_le_pow_right (by omega) (by omega)))
theorem has64 {S n : Nat} (hS : S < 2 ^ 63) : decide (bitOp .and .i64 ((S : Int).fdiv (2 ^ n)) 1 = 1) = S.testBit n := by
 have e : (S : Int).fdiv (2 ^ n) = ((S / 2 ^ n : Nat) : Int) := by
  rw [Int.fdiv_eq_ediv_of_nonneg _ (by have := Nat.pow_pos (n := n) (show 0 < 2 by omega); exact_mod_cast Nat.zero_le _)]
  norm_cast
 have h1 : S / 2 ^ n < 2 ^ 63 := Nat.lt_of_le_of_lt (Nat.div_le_self _ _) hS
 have e2 := and64 (a := S / 2 ^ n) (b := 1) h1 (by decide)
 rw [e]
 have e3 : bitOp .and .i64 ((S / 2 ^ n : Nat) : Int) 1 = ((S / 2 ^ n &&& 1 : Nat) : Int) := e2
 rw [e3, Nat.and_one_is_mod, Nat.testBit_eq_decide_div_mod_eq]
 congr 1
 simp only [eq_iff_iff]
 omega
theorem has0 {S n : Nat} (hS : S < 2 ^ 63) : decide (bitOp .and .i64 ((S : Int).fdiv (2 ^ n)) 1 = 0) = !S.testBit n := by
 have e : (S : Int).fdiv (2 ^ n) = ((S / 2 ^ n : Nat) : Int) := by
  rw [Int.fdiv_eq_ediv_of_nonneg _ (by have := Nat.pow_pos (n := n) (show 0 < 2 by omega); exact_mod_cast Nat.zero_le _)]
  norm_cast
 have h1 : S / 2 ^ n < 2 ^ 63 := Nat.lt_of_le_of_lt (Nat.div_le_self _ _) hS
 have e2 := and64 (a := S / 2 ^ n) (b := 1) h1 (by decide)
 rw [e]
 have e3 : bitOp .and .i64 ((S / 2 ^ n : Nat) : Int) 1 = ((S / 2 ^ n &&& 1 : Nat) : Int) := e2
 rw [e3, Nat.and_one_is_mod, Nat.testBit_eq_decide_div_mod_eq]
 by_cases c : S / 2 ^ n % 2 = 1
 ·rw [decide_eq_true c, decide_eq_false (by omega)]
  rfl
 ·rw [decide_eq_false c, decide_eq_true (by omega)]
  rfl
theorem shr_zero {S n : Nat} (hS : S < 2 ^ n) : (S : Int).fdiv (2 ^ n) = 0 := by
 have e : (S : Int).fdiv (2 ^ n) = ((S / 2 ^ n : Nat) : Int) := by
  rw [Int.fdiv_eq_ediv_of_nonneg _ (by have := Nat.pow_pos (n := n) (show 0 < 2 by omega); exact_mod_cast Nat.zero_le _)]
  norm_cast
 rw [e, Nat.div_eq_of_lt hS]
 rfl
theorem andNot64 {a b : Nat} (ha : a < 2 ^ 63) : bitOp .andNot .i64 (a : Int) (b : Int) = ((sdiff a b : Nat) : Int) := by
 show IntKind.wrap .i64 ((BitVec.ofInt 64 (a : Int) &&& ~~~BitVec.ofInt 64 (b : Int)).toNat : Int) = _
 rw [ofInt_nat, ofInt_nat]
 exact wrap64 _ (sdiff_lt ha)

theorem go_bc (t : TK) (b : Bool) (c : Nat) : ∀ (r : Nat) (L : List (Int × Int)), ({ t with b := b, cap := c } : TK).go r L = t.go r L
 | 0, _ => rfl
 | r + 1, L => by
  rw [TK.go, TK.go]
  refine congrArg (fun f => List.flatMap f (t.prs L.length)) (funext fun p => ?_)
  show (match t.fits L p with | true => ({ t with b := b, cap := c } : TK).go r (L ++ [p]) | false => []) = _
  rw [go_bc t b c r]
  cases t.fits L p <;> rfl
theorem trs_bc (t : TK) (b : Bool) (c : Nat) : ({ t with b := b, cap := c } : TK).trs = t.trs := by
 unfold TK.trs TK.trl
 rw [go_bc]
theorem valid_bc {t : TK} (b : Bool) (c : Nat) (hv : t.Valid) : ({ t with b := b, cap := c } : TK).Valid := hv
end Go.Proofs.Ytioajogaghgipaa
/-
 What settles duties, by their form.
-/
namespace Go.Proofs.Ytioajogaghgipaa
open Go Go.Sy Tic

theorem aq {P : Prop} (h : P := by first | with_reducible exact trivial | ((with_reducible show _ = _); exact rfl) | ((with_reducible show ∀ _, _ = _); exact fun _ => rfl) | ((with_reducible show under _ _); first | exact trivial | exact rfl | exact fun _ => rfl)) : P := h
theorem dd {P : Prop} (h : P := by first
 | ((with_reducible show under _ _); first | exact g1 | exact g1f | exact g2 | exact g2f | exact gn | exact fun hh => hh | exact u1 (lt64 (by omega)) | exact u0 (lt64 (by omega)) | exact u0 (by omega) | exact u1 (by omega) | exact u1 ⟨by omega, by omega⟩ | exact un (by omega) | exact fun hh => absurd hh (by decide) | exact fun hh => congrArg not hh | exact fun hh => Bool.noConfusion (show true = false from hh) | exact fun hh => Bool.noConfusion (show false = true from hh))
 | ((with_reducible show (_ : Int) ≤ _); omega)
 | ((with_reducible show (_ : Int) < _); omega)
 | ((with_reducible show (_ : Nat) ≤ _); omega)
 | ((with_reducible show (_ : Nat) < _); omega)
 | ((with_reducible show Nat.lt _ _); omega)
 | ((with_reducible show Nat.le _ _); omega)
 | ((with_reducible show ¬ _); omega)
 | ((with_reducible show _ ≠ _); omega)) : P := h
end Go.Proofs.Ytioajogaghgipaa
