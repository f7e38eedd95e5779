/-
  Parts: B18, B20, B16b, B17b.
-/
import Derived.Test.YtioajogaghgipaaN20
import Derived.Test.YtioajogaghgipaaN26
set_option linter.unusedVariables false
/-
 Contract: ticket.Minutes.
-/
namespace Go.Proofs.Ytioajogaghgipaa
open Go Go.Sy Tic
set_option linter.unusedSimpArgs false
set_option maxRecDepth 100000
set_option maxHeartbeats 4000000
attribute [local irreducible] CallP CodeP Ent YieldP
set_option maxHeartbeats 16000000

def K50ma (t : TK) (i : Nat) : CE → SHeap → Prop := fun ce h' =>
 (t.trs = [] ∧ ce = .panic (panE 10) ∧ h' = [some (.roa 5 t.n (TF t)), some .dead, some .dead, some .dead, some .dead]) ∨ (t.trs ≠ [] ∧ ∃ c, 2 ≤ c ∧ ce = .ret (.slice 5 2 0 2 c) ∧ h' = [some (.roa 5 t.n (TF t)), some .dead, some .dead, some .dead, some .dead, some (.arr 2 2 c (spn50m t i))])
theorem t50ma (t : TK) (hv : t.Valid) (i : Nat) (hi : i < t.n) (c : Nat) (hc : t.n ≤ c) : CallP Try.prog 50 [.ptr 1 0, .slice 3 1 0 2 2] (HA t c ++ [some (.roa 1 2 row50m), some (.cells [.int .i64 i])]) (K50ma t i) := by
 have h := t50m t hv i hi true c (.inr ⟨by omega, rfl, hc⟩)
 refine CallP.ent (CallP.pre (h' := HS50m t i true c) (Ent.trans (entCells (i := 1) (cs' := [.int .i64 t.huts, .osl t.b 0 5 t.n t.cap, .osl true 2 1 t.n c]) rfl (fun η => by simp [denL, den])) ?_) (h.mono fun ce h1 hk => ?_))
 ·refine ent_tau [0, 1, 2, 3, 4] ⟨?_, by (repeat' first|exact tm|refine aN ?_ ?_), rfl⟩
  (repeat' first|exact fp|refine aN ?_ ?_)
  all_goals exact two1' rfl rfl
 ·rcases hk with ⟨hne, rfl, rfl⟩ | ⟨hne, c', hc', rfl, rfl⟩
  ·refine ⟨_, _, .inl ⟨hne, rfl, rfl⟩, ?_⟩
   show Ent 5 ⟨[some (none, panE 10)], _, []⟩ ⟨[some (none, panE 10)], _, []⟩
   exact ent_tau [0, 1, 2, 3, 4] ⟨by (repeat' first|exact fp|refine aN ?_ ?_), by (repeat' first|exact tm|refine aN ?_ ?_), rfl⟩
  ·refine ⟨_, _, .inr ⟨hne, c', hc', rfl, rfl⟩, ?_⟩
   show Ent 5 ⟨[some (none, .slice 5 2 0 2 c')], _, []⟩ ⟨[some (none, .slice 5 2 0 2 c')], _, []⟩
   refine ent_tau [0, 1, 2, 3, 4, 5] ⟨?_, by (repeat' first|exact tm|refine aN ?_ ?_), rfl⟩
   (repeat' first|exact fp|refine aN ?_ ?_)
   all_goals exact two1' rfl rfl
open Classical in
noncomputable def minT (t : TK) (k : Int) : ((Int × Int) × (Int × Int)) × Int := if ¬ t.Valid then (((0, 0), (0, 0)), 1) else if inI k 0 ((t.n : Nat) - 1) = false then (((0, 0), (0, 0)), 2) else if t.trs = [] then (((0, 0), (0, 0)), 10) else ((t.bought k.toNat, t.door k.toNat), 0)
def pl14_2s : Plan := eg [0, 1, 5, 6] <| .alt 2 (.alt 3 (.alt 4 (.alt 7 (.alt 8 (.eager 9 <| .done) .no) .no) (.alt 7 (.alt 4 (.alt 8 (.eager 9 <| .done) .no) .no) .no)) (.alt 7 (.alt 3 (.alt 4 (.alt 8 (.eager 9 <| .done) .no) .no) .no) .no)) (.alt 7 (.alt 2 (.alt 3 (.alt 4 (.alt 8 (.eager 9 <| .done) .no) .no) .no) .no) .no)
theorem t14 (t : TK) (hn : t.n ≤ 1000000) (hh : InR .i64 t.huts) (k : Int) : CallP Try.prog 14 [TA t, .int .i64 k] (TH t) (Ret (.tup [.agg [.int .i64 (minT t k).1.1.1, .int .i64 (minT t k).1.1.2], .agg [.int .i64 (minT t k).1.2.1, .int .i64 (minT t k).1.2.2], .int .i64 (minT t k).2]) (TH t)) := by
 obtain ⟨B, hB⟩ : ∃ B, inI k 0 ((t.n : Nat) - 1) = B := ⟨_, rfl⟩
 have c49 := t49 t k hn
 rw [hB] at c49
 refine callD (E := E) E_ok Try.func14 rfl Try.func46 ⟨_, _, _, _, _, _, _, _, rfl, rfl, rfl⟩ rfl rfl ?_
 (repeat' first|exact ap|refine aN ?_ ?_)
 refine drawP E_ok [1] pl14_2s (by kernel_rfl) ?_
 (repeat' first|exact ap|refine aN ?_ ?_)
 ·refine c49.use [0] ?_ (by (repeat' first|exact fp|refine aN ?_ ?_)) rfl
  (repeat' first|exact ap|refine aN ?_ ?_)
  ·refine CallP.frame (t48 t B hn hh) [0] (by (repeat' first|exact fp|refine aN ?_ ?_)) (apartB_ok rfl) rfl ?_
   rintro ce h' (⟨hv, hb, h0, rfl, rfl⟩ | ⟨hv, hb, h0, c, hc, rfl, rfl⟩ | ⟨hv, rfl, rfl⟩ | ⟨hv, hb, rfl, rfl⟩)
   ·exfalso
    rw [hb, h0] at hB
    have := (inI_iff.1 hB)
    omega
   ·refine ⟨ownB_ok rfl, ?_⟩
    have hk : 0 ≤ k ∧ k ≤ (t.n : Nat) - 1 := inI_iff.1 (hB.trans hb)
    obtain ⟨i, rfl⟩ : ∃ i : Nat, k = i := ⟨k.toNat, by omega⟩
    (repeat' first|exact ap|refine aN ?_ ?_)
    all_goals first | exact om | skip
    refine CallP.frame (t50ma t hv i (by omega) c hc.1) [0, 6, 7, 8, 2] (by (repeat' first|exact fp|refine aN ?_ ?_); all_goals exact two1' rfl rfl) (apartB_ok rfl) rfl ?_
    rintro ce h' (⟨hne, rfl, rfl⟩ | ⟨hne, c', hc', rfl, rfl⟩)
    ·refine ⟨ownB_ok rfl, ?_⟩
     have e0 : minT t i = (((0, 0), (0, 0)), 10) := by unfold minT; rw [if_neg (by simpa using hv), if_neg (by rw [hB, hb]; decide), if_pos hne]
     (repeat' first|exact ap|refine aN ?_ ?_)
     refine (t47s 10 0).use [5] ?_ (by (repeat' first|exact fp|refine aN ?_ ?_)) rfl
     (repeat' first|exact ap|refine aN ?_ ?_)
     refine ⟨_, _, ⟨rfl, rfl⟩, ?_⟩
     rw [e0]
     exact ent_tau [0] ⟨by (repeat' first|exact fp|refine aN ?_ ?_), by (repeat' first|exact tm|refine aN ?_ ?_), rfl⟩
    ·refine ⟨ownB_ok rfl, ?_⟩
     have e0 : minT t i = ((t.bought i, t.door i), 0) := by unfold minT; rw [if_neg (by simpa using hv), if_neg (by rw [hB, hb]; decide), if_neg hne, Int.toNat_natCast]
     (repeat' first|exact ap|refine aN ?_ ?_)
     all_goals first | exact om | skip
     refine drawP E_ok [9] pl14_3 (by kernel_rfl) ?_
     (repeat' first|exact ap|refine aN ?_ ?_)
     all_goals first | exact om | skip
     refine (t47n 0).use [5] ?_ (by (repeat' first|exact fp|refine aN ?_ ?_)) rfl
     (repeat' first|exact ap|refine aN ?_ ?_)
     refine ⟨_, _, ⟨rfl, rfl⟩, ?_⟩
     rw [e0]
     exact ent_tau [0] ⟨by (repeat' first|exact fp|refine aN ?_ ?_), by (repeat' first|exact tm|refine aN ?_ ?_), rfl⟩
   ·refine ⟨ownB_ok rfl, ?_⟩
    have e0 : minT t k = (((0, 0), (0, 0)), 1) := by unfold minT; rw [if_pos hv]
    (repeat' first|exact ap|refine aN ?_ ?_)
    refine (t47s 1 0).use [5] ?_ (by (repeat' first|exact fp|refine aN ?_ ?_)) rfl
    (repeat' first|exact ap|refine aN ?_ ?_)
    refine ⟨_, _, ⟨rfl, rfl⟩, ?_⟩
    rw [e0]
    exact ent_tau [0] ⟨by (repeat' first|exact fp|refine aN ?_ ?_), by (repeat' first|exact tm|refine aN ?_ ?_), rfl⟩
   ·refine ⟨ownB_ok rfl, ?_⟩
    have e0 : minT t k = (((0, 0), (0, 0)), 2) := by unfold minT; rw [if_neg (by simpa using hv), if_pos (by rw [hB]; exact hb)]
    (repeat' first|exact ap|refine aN ?_ ?_)
    refine (t47s 2 0).use [5] ?_ (by (repeat' first|exact fp|refine aN ?_ ?_)) rfl
    (repeat' first|exact ap|refine aN ?_ ?_)
    refine ⟨_, _, ⟨rfl, rfl⟩, ?_⟩
    rw [e0]
    exact ent_tau [0] ⟨by (repeat' first|exact fp|refine aN ?_ ?_), by (repeat' first|exact tm|refine aN ?_ ?_), rfl⟩
  ·refine CallP.frame (t48 t B hn hh) [0] (by (repeat' first|exact fp|refine aN ?_ ?_)) (apartB_ok rfl) rfl ?_
   rintro ce h' (⟨hv, hb, h0, rfl, rfl⟩ | ⟨hv, hb, h0, c, hc, rfl, rfl⟩ | ⟨hv, rfl, rfl⟩ | ⟨hv, hb, rfl, rfl⟩)
   ·exfalso
    rw [hb, h0] at hB
    have := (inI_iff.1 hB)
    omega
   ·refine ⟨ownB_ok rfl, ?_⟩
    have hk : 0 ≤ k ∧ k ≤ (t.n : Nat) - 1 := inI_iff.1 (hB.trans hb)
    obtain ⟨i, rfl⟩ : ∃ i : Nat, k = i := ⟨k.toNat, by omega⟩
    (repeat' first|exact ap|refine aN ?_ ?_)
    all_goals first | exact om | skip
    refine CallP.frame (t50ma t hv i (by omega) c hc.1) [0, 7, 8, 6, 2] (by (repeat' first|exact fp|refine aN ?_ ?_); all_goals exact two1' rfl rfl) (apartB_ok rfl) rfl ?_
    rintro ce h' (⟨hne, rfl, rfl⟩ | ⟨hne, c', hc', rfl, rfl⟩)
    ·refine ⟨ownB_ok rfl, ?_⟩
     have e0 : minT t i = (((0, 0), (0, 0)), 10) := by unfold minT; rw [if_neg (by simpa using hv), if_neg (by rw [hB, hb]; decide), if_pos hne]
     (repeat' first|exact ap|refine aN ?_ ?_)
     refine (t47s 10 0).use [5] ?_ (by (repeat' first|exact fp|refine aN ?_ ?_)) rfl
     (repeat' first|exact ap|refine aN ?_ ?_)
     refine ⟨_, _, ⟨rfl, rfl⟩, ?_⟩
     rw [e0]
     exact ent_tau [0] ⟨by (repeat' first|exact fp|refine aN ?_ ?_), by (repeat' first|exact tm|refine aN ?_ ?_), rfl⟩
    ·refine ⟨ownB_ok rfl, ?_⟩
     have e0 : minT t i = ((t.bought i, t.door i), 0) := by unfold minT; rw [if_neg (by simpa using hv), if_neg (by rw [hB, hb]; decide), if_neg hne, Int.toNat_natCast]
     (repeat' first|exact ap|refine aN ?_ ?_)
     all_goals first | exact om | skip
     refine drawP E_ok [9] pl14_3 (by kernel_rfl) ?_
     (repeat' first|exact ap|refine aN ?_ ?_)
     all_goals first | exact om | skip
     refine (t47n 0).use [5] ?_ (by (repeat' first|exact fp|refine aN ?_ ?_)) rfl
     (repeat' first|exact ap|refine aN ?_ ?_)
     refine ⟨_, _, ⟨rfl, rfl⟩, ?_⟩
     rw [e0]
     exact ent_tau [0] ⟨by (repeat' first|exact fp|refine aN ?_ ?_), by (repeat' first|exact tm|refine aN ?_ ?_), rfl⟩
   ·refine ⟨ownB_ok rfl, ?_⟩
    have e0 : minT t k = (((0, 0), (0, 0)), 1) := by unfold minT; rw [if_pos hv]
    (repeat' first|exact ap|refine aN ?_ ?_)
    refine (t47s 1 0).use [5] ?_ (by (repeat' first|exact fp|refine aN ?_ ?_)) rfl
    (repeat' first|exact ap|refine aN ?_ ?_)
    refine ⟨_, _, ⟨rfl, rfl⟩, ?_⟩
    rw [e0]
    exact ent_tau [0] ⟨by (repeat' first|exact fp|refine aN ?_ ?_), by (repeat' first|exact tm|refine aN ?_ ?_), rfl⟩
   ·refine ⟨ownB_ok rfl, ?_⟩
    have e0 : minT t k = (((0, 0), (0, 0)), 2) := by unfold minT; rw [if_neg (by simpa using hv), if_pos (by rw [hB]; exact hb)]
    (repeat' first|exact ap|refine aN ?_ ?_)
    refine (t47s 2 0).use [5] ?_ (by (repeat' first|exact fp|refine aN ?_ ?_)) rfl
    (repeat' first|exact ap|refine aN ?_ ?_)
    refine ⟨_, _, ⟨rfl, rfl⟩, ?_⟩
    rw [e0]
    exact ent_tau [0] ⟨by (repeat' first|exact fp|refine aN ?_ ?_), by (repeat' first|exact tm|refine aN ?_ ?_), rfl⟩
 ·refine c49.use [0] ?_ (by (repeat' first|exact fp|refine aN ?_ ?_)) rfl
  (repeat' first|exact ap|refine aN ?_ ?_)
  refine CallP.frame (t48 t B hn hh) [0] (by (repeat' first|exact fp|refine aN ?_ ?_)) (apartB_ok rfl) rfl ?_
  rintro ce h' (⟨hv, hb, h0, rfl, rfl⟩ | ⟨hv, hb, h0, c, hc, rfl, rfl⟩ | ⟨hv, rfl, rfl⟩ | ⟨hv, hb, rfl, rfl⟩)
  ·exfalso
   rw [hb, h0] at hB
   have := (inI_iff.1 hB)
   omega
  ·refine ⟨ownB_ok rfl, ?_⟩
   have hk : 0 ≤ k ∧ k ≤ (t.n : Nat) - 1 := inI_iff.1 (hB.trans hb)
   obtain ⟨i, rfl⟩ : ∃ i : Nat, k = i := ⟨k.toNat, by omega⟩
   (repeat' first|exact ap|refine aN ?_ ?_)
   all_goals first | exact om | skip
   refine CallP.frame (t50ma t hv i (by omega) c hc.1) [0, 7, 8, 6, 2] (by (repeat' first|exact fp|refine aN ?_ ?_); all_goals exact two1' rfl rfl) (apartB_ok rfl) rfl ?_
   rintro ce h' (⟨hne, rfl, rfl⟩ | ⟨hne, c', hc', rfl, rfl⟩)
   ·refine ⟨ownB_ok rfl, ?_⟩
    have e0 : minT t i = (((0, 0), (0, 0)), 10) := by unfold minT; rw [if_neg (by simpa using hv), if_neg (by rw [hB, hb]; decide), if_pos hne]
    (repeat' first|exact ap|refine aN ?_ ?_)
    refine (t47s 10 0).use [5] ?_ (by (repeat' first|exact fp|refine aN ?_ ?_)) rfl
    (repeat' first|exact ap|refine aN ?_ ?_)
    refine ⟨_, _, ⟨rfl, rfl⟩, ?_⟩
    rw [e0]
    exact ent_tau [0] ⟨by (repeat' first|exact fp|refine aN ?_ ?_), by (repeat' first|exact tm|refine aN ?_ ?_), rfl⟩
   ·refine ⟨ownB_ok rfl, ?_⟩
    have e0 : minT t i = ((t.bought i, t.door i), 0) := by unfold minT; rw [if_neg (by simpa using hv), if_neg (by rw [hB, hb]; decide), if_neg hne, Int.toNat_natCast]
    (repeat' first|exact ap|refine aN ?_ ?_)
    all_goals first | exact om | skip
    refine drawP E_ok [9] pl14_3 (by kernel_rfl) ?_
    (repeat' first|exact ap|refine aN ?_ ?_)
    all_goals first | exact om | skip
    refine (t47n 0).use [5] ?_ (by (repeat' first|exact fp|refine aN ?_ ?_)) rfl
    (repeat' first|exact ap|refine aN ?_ ?_)
    refine ⟨_, _, ⟨rfl, rfl⟩, ?_⟩
    rw [e0]
    exact ent_tau [0] ⟨by (repeat' first|exact fp|refine aN ?_ ?_), by (repeat' first|exact tm|refine aN ?_ ?_), rfl⟩
  ·refine ⟨ownB_ok rfl, ?_⟩
   have e0 : minT t k = (((0, 0), (0, 0)), 1) := by unfold minT; rw [if_pos hv]
   (repeat' first|exact ap|refine aN ?_ ?_)
   refine (t47s 1 0).use [5] ?_ (by (repeat' first|exact fp|refine aN ?_ ?_)) rfl
   (repeat' first|exact ap|refine aN ?_ ?_)
   refine ⟨_, _, ⟨rfl, rfl⟩, ?_⟩
   rw [e0]
   exact ent_tau [0] ⟨by (repeat' first|exact fp|refine aN ?_ ?_), by (repeat' first|exact tm|refine aN ?_ ?_), rfl⟩
  ·refine ⟨ownB_ok rfl, ?_⟩
   have e0 : minT t k = (((0, 0), (0, 0)), 2) := by unfold minT; rw [if_neg (by simpa using hv), if_pos (by rw [hB]; exact hb)]
   (repeat' first|exact ap|refine aN ?_ ?_)
   refine (t47s 2 0).use [5] ?_ (by (repeat' first|exact fp|refine aN ?_ ?_)) rfl
   (repeat' first|exact ap|refine aN ?_ ?_)
   refine ⟨_, _, ⟨rfl, rfl⟩, ?_⟩
   rw [e0]
   exact ent_tau [0] ⟨by (repeat' first|exact fp|refine aN ?_ ?_), by (repeat' first|exact tm|refine aN ?_ ?_), rfl⟩
 ·refine c49.use [0] ?_ (by (repeat' first|exact fp|refine aN ?_ ?_)) rfl
  (repeat' first|exact ap|refine aN ?_ ?_)
  refine CallP.frame (t48 t B hn hh) [0] (by (repeat' first|exact fp|refine aN ?_ ?_)) (apartB_ok rfl) rfl ?_
  rintro ce h' (⟨hv, hb, h0, rfl, rfl⟩ | ⟨hv, hb, h0, c, hc, rfl, rfl⟩ | ⟨hv, rfl, rfl⟩ | ⟨hv, hb, rfl, rfl⟩)
  ·exfalso
   rw [hb, h0] at hB
   have := (inI_iff.1 hB)
   omega
  ·refine ⟨ownB_ok rfl, ?_⟩
   have hk : 0 ≤ k ∧ k ≤ (t.n : Nat) - 1 := inI_iff.1 (hB.trans hb)
   obtain ⟨i, rfl⟩ : ∃ i : Nat, k = i := ⟨k.toNat, by omega⟩
   (repeat' first|exact ap|refine aN ?_ ?_)
   all_goals first | exact om | skip
   refine CallP.frame (t50ma t hv i (by omega) c hc.1) [0, 7, 8, 6, 2] (by (repeat' first|exact fp|refine aN ?_ ?_); all_goals exact two1' rfl rfl) (apartB_ok rfl) rfl ?_
   rintro ce h' (⟨hne, rfl, rfl⟩ | ⟨hne, c', hc', rfl, rfl⟩)
   ·refine ⟨ownB_ok rfl, ?_⟩
    have e0 : minT t i = (((0, 0), (0, 0)), 10) := by unfold minT; rw [if_neg (by simpa using hv), if_neg (by rw [hB, hb]; decide), if_pos hne]
    (repeat' first|exact ap|refine aN ?_ ?_)
    refine (t47s 10 0).use [5] ?_ (by (repeat' first|exact fp|refine aN ?_ ?_)) rfl
    (repeat' first|exact ap|refine aN ?_ ?_)
    refine ⟨_, _, ⟨rfl, rfl⟩, ?_⟩
    rw [e0]
    exact ent_tau [0] ⟨by (repeat' first|exact fp|refine aN ?_ ?_), by (repeat' first|exact tm|refine aN ?_ ?_), rfl⟩
   ·refine ⟨ownB_ok rfl, ?_⟩
    have e0 : minT t i = ((t.bought i, t.door i), 0) := by unfold minT; rw [if_neg (by simpa using hv), if_neg (by rw [hB, hb]; decide), if_neg hne, Int.toNat_natCast]
    (repeat' first|exact ap|refine aN ?_ ?_)
    all_goals first | exact om | skip
    refine drawP E_ok [9] pl14_3 (by kernel_rfl) ?_
    (repeat' first|exact ap|refine aN ?_ ?_)
    all_goals first | exact om | skip
    refine (t47n 0).use [5] ?_ (by (repeat' first|exact fp|refine aN ?_ ?_)) rfl
    (repeat' first|exact ap|refine aN ?_ ?_)
    refine ⟨_, _, ⟨rfl, rfl⟩, ?_⟩
    rw [e0]
    exact ent_tau [0] ⟨by (repeat' first|exact fp|refine aN ?_ ?_), by (repeat' first|exact tm|refine aN ?_ ?_), rfl⟩
  ·refine ⟨ownB_ok rfl, ?_⟩
   have e0 : minT t k = (((0, 0), (0, 0)), 1) := by unfold minT; rw [if_pos hv]
   (repeat' first|exact ap|refine aN ?_ ?_)
   refine (t47s 1 0).use [5] ?_ (by (repeat' first|exact fp|refine aN ?_ ?_)) rfl
   (repeat' first|exact ap|refine aN ?_ ?_)
   refine ⟨_, _, ⟨rfl, rfl⟩, ?_⟩
   rw [e0]
   exact ent_tau [0] ⟨by (repeat' first|exact fp|refine aN ?_ ?_), by (repeat' first|exact tm|refine aN ?_ ?_), rfl⟩
  ·refine ⟨ownB_ok rfl, ?_⟩
   have e0 : minT t k = (((0, 0), (0, 0)), 2) := by unfold minT; rw [if_neg (by simpa using hv), if_pos (by rw [hB]; exact hb)]
   (repeat' first|exact ap|refine aN ?_ ?_)
   refine (t47s 2 0).use [5] ?_ (by (repeat' first|exact fp|refine aN ?_ ?_)) rfl
   (repeat' first|exact ap|refine aN ?_ ?_)
   refine ⟨_, _, ⟨rfl, rfl⟩, ?_⟩
   rw [e0]
   exact ent_tau [0] ⟨by (repeat' first|exact fp|refine aN ?_ ?_), by (repeat' first|exact tm|refine aN ?_ ?_), rfl⟩
end Go.Proofs.Ytioajogaghgipaa
/-
 Contract: ticket.Passed.
-/
namespace Go.Proofs.Ytioajogaghgipaa
open Go Go.Sy Tic
set_option linter.unusedSimpArgs false
set_option maxRecDepth 100000
set_option maxHeartbeats 4000000
attribute [local irreducible] CallP CodeP Ent YieldP
set_option maxHeartbeats 16000000

open Classical in
noncomputable def pasT (t : TK) (k : Int) : Int × Int × Int := if ¬ t.Valid then (0, 0, 1) else if inI k 0 ((t.n : Nat) - 1) = false then (0, 0, 2) else if t.trs = [] then (0, 0, 10) else ((t.surely k.toNat : Nat), (t.perhaps k.toNat : Nat), 0)
theorem mask_yes {p : Nat → Bool} {k : Nat} (h : p k = true) : maskN p (k + 1) = maskN p k ||| 2 ^ k := by
 rw [maskN_or, maskN, h]
theorem mask_no {p : Nat → Bool} {k : Nat} (h : p k = false) : maskN p (k + 1) = maskN p k := by
 rw [maskN, h]
 rfl
theorem t18 (t : TK) (hn : t.n ≤ 1000000) (hh : InR .i64 t.huts) (k : Int) : CallP Try.prog 18 [TA t, .int .i64 k] (TH t) (Ret (.tup [.int .i64 (pasT t k).1, .int .i64 (pasT t k).2.1, .int .i64 (pasT t k).2.2]) (TH t)) := by
 obtain ⟨B, hB⟩ : ∃ B, inI k 0 ((t.n : Nat) - 1) = B := ⟨_, rfl⟩
 have c49 := t49 t k hn
 rw [hB] at c49
 refine callD (E := E) E_ok Try.func18 rfl Try.func61 ⟨_, _, _, _, _, _, _, _, rfl, rfl, rfl⟩ rfl rfl ?_
 (repeat' first|exact ap|refine aN ?_ ?_)
 refine drawP E_ok [1] pl18_2 (by kernel_rfl) ?_
 (repeat' first|exact ap|refine aN ?_ ?_)
 refine c49.use [0] ?_ (by (repeat' first|exact fp|refine aN ?_ ?_)) rfl
 (repeat' first|exact ap|refine aN ?_ ?_)
 refine CallP.frame (t48 t B hn hh) [0] (by (repeat' first|exact fp|refine aN ?_ ?_)) (apartB_ok rfl) rfl ?_
 rintro ce h' (⟨hv, hb, h0, rfl, rfl⟩ | ⟨hv, hb, h0, c, hc, rfl, rfl⟩ | ⟨hv, rfl, rfl⟩ | ⟨hv, hb, rfl, rfl⟩)
 ·exfalso
  rw [hb, h0] at hB
  have := (inI_iff.1 hB)
  omega
 ·refine ⟨ownB_ok rfl, ?_⟩
  have hk : 0 ≤ k ∧ k ≤ (t.n : Nat) - 1 := inI_iff.1 (hB.trans hb)
  obtain ⟨i, rfl⟩ : ∃ i : Nat, k = i := ⟨k.toNat, by omega⟩
  have hn5 := hv.2.1
  have c57 := fun o (ho : o < t.n) => t57 t hv true c (.inr ⟨h0, rfl, hc.1⟩) _ _ (.inl ⟨i, o, by omega, by omega, rfl, rfl⟩)
  (repeat' first|exact ap|refine aN ?_ ?_)
  all_goals first | exact om | skip
  refine loopP E_ok [1, 2, 4, 5, 6, 7, 12, 20] (fun o : Nat => [(8, .int .i64 (maskN (fun o => t.trs.all fun x => over x i o) o : Nat)), (9, .int .i64 (maskN (fun o => t.trs.any fun x => over x i o) o : Nat)), (21, .int .i64 o)]) (fun _ _ => [some (.roa 5 t.n (TF t)), some (.cells (tb t)), some (.cells [.int .i64 0]), some (.roc [.int .i64 t.huts, .osl t.b 0 5 t.n t.cap, .osl true 4 1 t.n c]), some (.roa 1 t.n (rowO (ord t)))]) (fun o => o ≤ t.n ∧ (0 < o → t.trs ≠ [])) (fun o => t.n - o) 0 ⟨Nat.zero_le _, fun h => absurd h (Nat.lt_irrefl 0)⟩ ?_ ?_
  ·refine Ent.trans (entCells (i := 3) (cs' := [.int .i64 t.huts, .osl t.b 0 5 t.n t.cap, .osl true 4 1 t.n c]) rfl (fun η => by simp [denL, den])) ?_
   exact ent_tau [0, 1, 2, 3, 4] ⟨by (repeat' first|exact fp|refine aN ?_ ?_), by (repeat' first|exact tm|refine aN ?_ ?_), rfl⟩
  rintro o ⟨ho, hne⟩
  refine And.intro ?_ (And.intro (fun hlt => ?_) (fun hlt => ?_))
  ·(repeat' first|exact ap|refine aN ?_ ?_)
  ·have hlt' : o < t.n := by
    have := of_decide_eq_true hlt
    omega
   (repeat' first|exact ap|refine aN ?_ ?_)
   refine CallP.frame (c57 o hlt') [0, 3, 4] (by (repeat' first|exact fp|refine aN ?_ ?_)) (apartB_ok rfl) rfl ?_
   rintro ce h' ⟨rfl, rfl⟩
   refine ⟨ownB_ok rfl, ?_⟩
   cases hE : t.trs.isEmpty with
   | true =>
    have hE' : t.trs = [] := List.isEmpty_iff.1 hE
    have e0 : pasT t i = (0, 0, 10) := by unfold pasT; rw [if_neg (by simpa using hv), if_neg (by rw [hB, hb]; decide), if_pos hE']
    (repeat' first|exact ap|refine aN ?_ ?_)
    refine (t47s 10 0).use [2] ?_ (by (repeat' first|exact fp|refine aN ?_ ?_)) rfl
    (repeat' first|exact ap|refine aN ?_ ?_)
    refine ⟨_, _, ⟨rfl, rfl⟩, ?_⟩
    rw [e0]
    exact ent_tau [0] ⟨by (repeat' first|exact fp|refine aN ?_ ?_), by (repeat' first|exact tm|refine aN ?_ ?_), rfl⟩
   | false =>
    have hE' : t.trs ≠ [] := fun e => by rw [e] at hE; cases hE
    obtain ⟨A, hA⟩ : ∃ A, (t.trs.any fun x => over x i o) = A := ⟨_, rfl⟩
    obtain ⟨N, hN⟩ : ∃ A, (t.trs.any fun x => !over x i o) = A := ⟨_, rfl⟩
    have hAll : (t.trs.all fun x => over x i o) = !N := by rw [← hN, ← List.not_all_eq_any_not, Bool.not_not]
    have pk := pow_int o
    have p2 : 2 ^ o < 2 ^ 5 := Nat.pow_lt_pow_right (by omega) (by omega)
    have pa : -9223372036854775808 ≤ (1 : Int) * 2 ^ ((o : Nat) : Int).toNat := by rw [pk]; exact Int.le_trans (by decide) (Int.natCast_nonneg _)
    have pb : (1 : Int) * 2 ^ ((o : Nat) : Int).toNat ≤ 9223372036854775807 := by rw [pk]; omega
    have h64 : ((o : Nat) : Int) < ((IntKind.bits .i64 : Nat) : Int) := lt64 (by omega)
    have hAo : (fun o => t.trs.any fun x => over x i o) o = A := hA
    have hNo : (fun o => t.trs.all fun x => over x i o) o = !N := hAll
    rw [hA, hN]
    cases A <;> cases N
    ·all_goals (repeat' first|exact ap|refine aN ?_ ?_)
     all_goals first | exact gd | skip
     all_goals intro h1
     all_goals first | exact absurd h1 (by decide) | (cases h1; done) | skip
     (repeat' first|exact ap|refine aN ?_ ?_)
     all_goals first | exact om | skip
     all_goals first | exact pa | exact pb | exact u0 h64 | skip
     all_goals (repeat' first|exact ap|refine aN ?_ ?_)
     all_goals first | exact gd | skip
     all_goals intro h2
     all_goals first | exact absurd h2 (by decide) | (cases h2; done) | skip
     (repeat' first|exact ap|refine aN ?_ ?_)
     all_goals first | exact om | skip
     all_goals first | exact pa | exact pb | exact u0 h64 | skip
     have hf := unF (A := ((maskN (fun o => t.trs.all fun x => over x i o) o : Nat) : Int)) rfl pk
     refine (t62 (maskN (fun o => t.trs.all fun x => over x i o) o) (2 ^ o) (Nat.lt_trans (maskN_lt _ o) (Nat.lt_trans p2 (by decide))) (Nat.lt_trans p2 (by decide))).use [6] ?_ (by (first | exact ⟨⟨rfl, rfl, hf⟩, trivial⟩ | exact ⟨⟨rfl, rfl, fun k hk => hf k hk⟩, trivial⟩)) rfl
     (repeat' first|exact ap|refine aN ?_ ?_)
     all_goals first | exact om | skip
     refine ⟨o + 1, ⟨hlt', fun _ => hE'⟩, by omega, ?_⟩
     rw [mask_no (p := fun o => t.trs.any fun x => over x i o) hAo, mask_yes (p := fun o => t.trs.all fun x => over x i o) hNo]
     exact ent_tau [0, 1, 2, 3, 4] ⟨by (repeat' first|exact fp|refine aN ?_ ?_), by (repeat' first|exact tm|refine aN ?_ ?_), rfl⟩
    ·all_goals (repeat' first|exact ap|refine aN ?_ ?_)
     all_goals first | exact gd | skip
     all_goals intro h1
     all_goals first | exact absurd h1 (by decide) | (cases h1; done) | skip
     (repeat' first|exact ap|refine aN ?_ ?_)
     all_goals first | exact om | skip
     all_goals first | exact pa | exact pb | exact u0 h64 | skip
     all_goals (repeat' first|exact ap|refine aN ?_ ?_)
     all_goals first | exact gd | skip
     all_goals intro h2
     all_goals first | exact absurd h2 (by decide) | (cases h2; done) | skip
     (repeat' first|exact ap|refine aN ?_ ?_)
     all_goals first | exact om | skip
     all_goals first | exact pa | exact pb | exact u0 h64 | skip
     refine ⟨o + 1, ⟨hlt', fun _ => hE'⟩, by omega, ?_⟩
     rw [mask_no (p := fun o => t.trs.any fun x => over x i o) hAo, mask_no (p := fun o => t.trs.all fun x => over x i o) hNo]
     exact ent_tau [0, 1, 2, 3, 4] ⟨by (repeat' first|exact fp|refine aN ?_ ?_), by (repeat' first|exact tm|refine aN ?_ ?_), rfl⟩
    ·all_goals (repeat' first|exact ap|refine aN ?_ ?_)
     all_goals first | exact gd | skip
     all_goals intro h1
     all_goals first | exact absurd h1 (by decide) | (cases h1; done) | skip
     (repeat' first|exact ap|refine aN ?_ ?_)
     all_goals first | exact om | skip
     all_goals first | exact pa | exact pb | exact u0 h64 | skip
     have hf := unF (A := ((maskN (fun o => t.trs.any fun x => over x i o) o : Nat) : Int)) rfl pk
     refine (t62 (maskN (fun o => t.trs.any fun x => over x i o) o) (2 ^ o) (Nat.lt_trans (maskN_lt _ o) (Nat.lt_trans p2 (by decide))) (Nat.lt_trans p2 (by decide))).use [6] ?_ (by (first | exact ⟨⟨rfl, rfl, hf⟩, trivial⟩ | exact ⟨⟨rfl, rfl, fun k hk => hf k hk⟩, trivial⟩)) rfl
     (repeat' first|exact ap|refine aN ?_ ?_)
     all_goals first | exact om | skip
     all_goals first | exact pa | exact pb | exact u0 h64 | skip
     all_goals (repeat' first|exact ap|refine aN ?_ ?_)
     all_goals first | exact gd | skip
     all_goals intro h2
     all_goals first | exact absurd h2 (by decide) | (cases h2; done) | skip
     (repeat' first|exact ap|refine aN ?_ ?_)
     all_goals first | exact om | skip
     all_goals first | exact pa | exact pb | exact u0 h64 | skip
     have hf := unF (A := ((maskN (fun o => t.trs.all fun x => over x i o) o : Nat) : Int)) rfl pk
     refine (t62 (maskN (fun o => t.trs.all fun x => over x i o) o) (2 ^ o) (Nat.lt_trans (maskN_lt _ o) (Nat.lt_trans p2 (by decide))) (Nat.lt_trans p2 (by decide))).use [7] ?_ (by (first | exact ⟨⟨rfl, rfl, hf⟩, trivial⟩ | exact ⟨⟨rfl, rfl, fun k hk => hf k hk⟩, trivial⟩)) rfl
     (repeat' first|exact ap|refine aN ?_ ?_)
     all_goals first | exact om | skip
     refine ⟨o + 1, ⟨hlt', fun _ => hE'⟩, by omega, ?_⟩
     rw [mask_yes (p := fun o => t.trs.any fun x => over x i o) hAo, mask_yes (p := fun o => t.trs.all fun x => over x i o) hNo]
     exact ent_tau [0, 1, 2, 3, 4] ⟨by (repeat' first|exact fp|refine aN ?_ ?_), by (repeat' first|exact tm|refine aN ?_ ?_), rfl⟩
    ·all_goals (repeat' first|exact ap|refine aN ?_ ?_)
     all_goals first | exact gd | skip
     all_goals intro h1
     all_goals first | exact absurd h1 (by decide) | (cases h1; done) | skip
     (repeat' first|exact ap|refine aN ?_ ?_)
     all_goals first | exact om | skip
     all_goals first | exact pa | exact pb | exact u0 h64 | skip
     have hf := unF (A := ((maskN (fun o => t.trs.any fun x => over x i o) o : Nat) : Int)) rfl pk
     refine (t62 (maskN (fun o => t.trs.any fun x => over x i o) o) (2 ^ o) (Nat.lt_trans (maskN_lt _ o) (Nat.lt_trans p2 (by decide))) (Nat.lt_trans p2 (by decide))).use [6] ?_ (by (first | exact ⟨⟨rfl, rfl, hf⟩, trivial⟩ | exact ⟨⟨rfl, rfl, fun k hk => hf k hk⟩, trivial⟩)) rfl
     (repeat' first|exact ap|refine aN ?_ ?_)
     all_goals first | exact om | skip
     all_goals first | exact pa | exact pb | exact u0 h64 | skip
     all_goals (repeat' first|exact ap|refine aN ?_ ?_)
     all_goals first | exact gd | skip
     all_goals intro h2
     all_goals first | exact absurd h2 (by decide) | (cases h2; done) | skip
     (repeat' first|exact ap|refine aN ?_ ?_)
     all_goals first | exact om | skip
     all_goals first | exact pa | exact pb | exact u0 h64 | skip
     refine ⟨o + 1, ⟨hlt', fun _ => hE'⟩, by omega, ?_⟩
     rw [mask_yes (p := fun o => t.trs.any fun x => over x i o) hAo, mask_no (p := fun o => t.trs.all fun x => over x i o) hNo]
     exact ent_tau [0, 1, 2, 3, 4] ⟨by (repeat' first|exact fp|refine aN ?_ ?_), by (repeat' first|exact tm|refine aN ?_ ?_), rfl⟩
  ·have e : o = t.n := by
    have := of_decide_eq_false hlt
    omega
   subst e
   have e0 : pasT t i = (((t.surely i : Nat) : Int), ((t.perhaps i : Nat) : Int), 0) := by unfold pasT; rw [if_neg (by simpa using hv), if_neg (by rw [hB, hb]; decide), if_neg (hne h0), Int.toNat_natCast]
   (repeat' first|exact ap|refine aN ?_ ?_)
   refine (t47n 0).use [2] ?_ (by (repeat' first|exact fp|refine aN ?_ ?_)) rfl
   (repeat' first|exact ap|refine aN ?_ ?_)
   refine ⟨_, _, ⟨rfl, rfl⟩, ?_⟩
   rw [e0]
   exact ent_tau [0] ⟨by (repeat' first|exact fp|refine aN ?_ ?_), by (repeat' first|exact tm|refine aN ?_ ?_), rfl⟩
 ·refine ⟨ownB_ok rfl, ?_⟩
  have e0 : pasT t k = (0, 0, 1) := by unfold pasT; rw [if_pos hv]
  (repeat' first|exact ap|refine aN ?_ ?_)
  refine (t47s 1 0).use [2] ?_ (by (repeat' first|exact fp|refine aN ?_ ?_)) rfl
  (repeat' first|exact ap|refine aN ?_ ?_)
  refine ⟨_, _, ⟨rfl, rfl⟩, ?_⟩
  rw [e0]
  exact ent_tau [0] ⟨by (repeat' first|exact fp|refine aN ?_ ?_), by (repeat' first|exact tm|refine aN ?_ ?_), rfl⟩
 ·refine ⟨ownB_ok rfl, ?_⟩
  have e0 : pasT t k = (0, 0, 2) := by unfold pasT; rw [if_neg (by simpa using hv), if_pos (by rw [hB]; exact hb)]
  (repeat' first|exact ap|refine aN ?_ ?_)
  refine (t47s 2 0).use [2] ?_ (by (repeat' first|exact fp|refine aN ?_ ?_)) rfl
  (repeat' first|exact ap|refine aN ?_ ?_)
  refine ⟨_, _, ⟨rfl, rfl⟩, ?_⟩
  rw [e0]
  exact ent_tau [0] ⟨by (repeat' first|exact fp|refine aN ?_ ?_), by (repeat' first|exact tm|refine aN ?_ ?_), rfl⟩
end Go.Proofs.Ytioajogaghgipaa
/-
 The spans of what is measured, of all truths (b).
-/
namespace Go.Proofs.Ytioajogaghgipaa
open Go Go.Sy Tic
set_option linter.unusedSimpArgs false
set_option maxRecDepth 100000
set_option maxHeartbeats 4000000
attribute [local irreducible] CallP CodeP Ent YieldP
set_option maxHeartbeats 16000000

noncomputable def P50b (t : TK) (a : Bool) (g : Ms) (st : LoopState) (p : Option Code) : List (Nat × SObj) := [(4, L50 st p), (5, .cells [.slice 7 4 0 1 1]), (6, .cells [.bool a]), (7, .arr 4 1 1 (mrow (.fn (.func 82) [] [.ptr 8 0]) g)), (8, .cells (tb t))]
noncomputable def C50b (t : TK) (g : Ms) (b : Bool) : OB := packR (P50b t g.1 g (bif b then .ready else .done) (bif b then none else some .ret))
noncomputable def HU50b (t : TK) (bo : Bool) (co : Nat) (a : Bool) (g : Ms) (st : LoopState) (p : Option Code) : SHeap :=
 [some (.roa 5 t.n (TF t)), some (.roc [.int .i64 t.huts, .osl t.b 0 5 t.n t.cap, .osl bo 2 1 t.n co]), some (.roa 1 t.n (rowO (ord t))), some (.roc [.ptr 1 0]), some (L50 st p), some (.cells [.slice 7 4 0 1 1]), some (.cells [.bool a]), some (.arr 4 1 1 (mrow (.fn (.func 82) [] [.ptr 8 0]) g)), some (.cells (tb t)), some .dead, some .dead, some .dead, some .dead]
theorem up50b (t : TK) (bo : Bool) (co : Nat) (a : Bool) (g : Ms) (x : Tru) : Ent 13 ⟨argT [.agg (trV x)], HI t bo co (packR (P50b t a g .ready none)), []⟩ ⟨argT [.agg (trV x)], HU50b t bo co a g .ready none, []⟩ :=
 entUnpack (n := 13) (T := argT [.agg (trV x)]) (H := HI t bo co (packR (P50b t a g .ready none))) (D := []) NS (P50b t a g .ready none) 4 rfl rfl rfl ⟨trivial, trivial, trivial, trivial, trivial, trivial⟩
theorem pk50b (t : TK) (bo : Bool) (co : Nat) (a : Bool) (g : Ms) (T : Tm) : Ent 13 ⟨T, HU50b t bo co a g .ready none, []⟩ ⟨T, HI t bo co (packR (P50b t a g .ready none)), []⟩ :=
 entPack (n := 13) (T := T) (H := HU50b t bo co a g .ready none) (D := []) NS (P50b t a g .ready none) 4 (by (repeat' first|exact fp|refine aN ?_ ?_)) rfl rfl
theorem y50b (t : TK) (hv : t.Valid) (bo : Bool) (co : Nat) (g : Ms) (x : Tru) (hx : x ∈ t.trs) :
  YieldP Try.prog 4 [.agg (trV x)] (HI t bo co (C50b t g true)) (Ret (.bool (stepM (fun (g : Ms) x => seeS g (t.mostF x t.n)) g x).2) (HI t bo co (C50b t (stepM (fun (g : Ms) x => seeS g (t.mostF x t.n)) g x).1 (stepM (fun (g : Ms) x => seeS g (t.mostF x t.n)) g x).2))) := by
 have hb := trs_bnd2 hv hx
 have c := t101b t hv x (fun i hi => (hb i hi).2) g
 obtain ⟨N, hN⟩ : ∃ N, t.mostF x t.n = N := ⟨_, rfl⟩
 rw [hN] at c
 have hpk := pk50b t bo co true (seeS g N)
 have hC : C50b t (seeS g N) true = packR (P50b t true (seeS g N) .ready none) := by
  obtain ⟨s, lo, hi⟩ := g
  cases s <;> rfl
 refine YieldP.pre (up50b t bo co g.1 g x) (show (4 : Nat) < 13 by decide) ?_
 simp only [stepM]
 rw [hN, hC]
 refine YieldP.ent (roundP E_ok rfl rfl fun l => ?_)
 (repeat' first|exact ap|refine aN ?_ ?_)
 refine loopP E_ok [5, 8, 9, 34] (fun j : Nat => [(35, .int .i64 j)]) (fun j _ => match j with
   | 0 => HU50b t bo co true g .busy none ++ [some (.cells (trV x))]
   | _ => HU50b t bo co true (seeS g N) .busy none ++ [some (.cells (trV x))]) (fun j => j ≤ 1) (fun j => 1 - j) 0 (Nat.zero_le _) ?_ ?_
 ·exact ent_tau [0, 1, 2, 3, 4, 5, 6, 7, 8, 9, 10, 11, 12, 13] ⟨by (repeat' first|exact fp|refine aN ?_ ?_), by (repeat' first|exact tm|refine aN ?_ ?_), rfl⟩
 rintro j hj
 have hj2 : j = 0 ∨ j = 1 := by omega
 rcases hj2 with rfl | rfl
 ·all_goals (repeat' first|exact ap|refine aN ?_ ?_)
  all_goals first | exact gd | skip
  all_goals intro h1
  all_goals first | exact absurd h1 (by decide) | (cases h1; done) | skip
  (repeat' first|exact ap|refine aN ?_ ?_)
  all_goals first | exact om | skip
  refine drawP E_ok [5, 13] pl50_14 (by kernel_rfl) ?_
  (repeat' first|exact ap|refine aN ?_ ?_)
  all_goals first | exact om | skip
  refine c.use [7, 0, 8] ?_ (by (repeat' first|exact fp|refine aN ?_ ?_)) rfl
  (repeat' first|exact ap|refine aN ?_ ?_)
  all_goals first | exact om | skip
  refine ⟨1, by omega, by omega, ?_⟩
  exact ent_tau [0, 1, 2, 3, 4, 5, 6, 7, 8, 9, 10, 11, 12, 13] ⟨by (repeat' first|exact fp|refine aN ?_ ?_), by (repeat' first|exact tm|refine aN ?_ ?_), rfl⟩
 ·all_goals (repeat' first|exact ap|refine aN ?_ ?_)
  all_goals first | exact gd | skip
  all_goals intro h1
  all_goals first | exact absurd h1 (by decide) | (cases h1; done) | skip
  (repeat' first|exact ap|refine aN ?_ ?_)
  all_goals first | exact om | skip
  refine ⟨_, _, ⟨rfl, rfl⟩, ?_⟩
  refine Ent.trans ?_ (hpk _)
  exact ent_tau [0, 1, 2, 3, 4, 5, 6, 7, 8, 9, 10, 11, 12] ⟨by (repeat' first|exact fp|refine aN ?_ ?_), by (repeat' first|exact tm|refine aN ?_ ?_), rfl⟩
noncomputable def G50b (t : TK) (bo : Bool) (co : Nat) (a : Bool) (g : Ms) (st : LoopState) (p : Option Code) : SHeap :=
 HQ t bo co ++ [some (.cells [.slice 5 4 0 1 1]), some (.cells [.bool a]), some (.arr 4 1 1 (mrow (.fn (.func 82) [] [.ptr 6 0]) g)), some (.cells (tb t)), some (.roc [.ptr 1 0]), some (L50h st p)]
def S50b : List Nat := [0, 1, 2, 7, 8, 3, 4, 5, 6, 3, 3, 3, 3]
noncomputable def GP50b (t : TK) (bo : Bool) (co : Nat) (ob : OB) : SHeap :=
 HQ t bo co ++ [some .dead, some .dead, some .dead, some .dead, some (.roc [.ptr 1 0]), some (.pack S50b ob)]
theorem r50b (t : TK) (hv : t.Valid) (bo : Bool) (co : Nat) (hbo : OrdV t bo co) : CallP Try.prog 103 [.yld 8, .ptr 7 0] (G50b t bo co false (false, 0, 0) .ready none) (Ret (.tup []) (G50b t bo co (msOf (t.trs.map fun x => t.mostF x t.n)).1 (msOf (t.trs.map fun x => t.mostF x t.n)) .ready none)) := by
 have c := t103 t hv bo co hbo (stepM (fun (g : Ms) x => seeS g (t.mostF x t.n))) (C50b t) (fun g x hx => y50b t hv bo co g x hx) (false, 0, 0)
 rw [run_M, fold_ms (fun x => t.mostF x t.n), ms_trs (fun x => t.mostF x t.n)] at c
 obtain ⟨R, hR⟩ : ∃ R : Ms, msOf (t.trs.map fun x => t.mostF x t.n) = R := ⟨_, rfl⟩
 rw [hR] at c ⊢
 simp only at c
 have h1 : CallP Try.prog 103 [.yld 8, .ptr 7 0] (GP50b t bo co (C50b t (false, 0, 0) true)) (Ret (.tup []) (GP50b t bo co (C50b t R true))) := by
  refine c.use S50b ?_ (by (repeat' first|exact fp|refine aN ?_ ?_)) rfl
  exact ⟨rfl, rfl⟩
 refine CallP.pre (entPack (n := 9) (T := argT [.yld 8, .ptr 7 0]) (H := G50b t bo co false (false, 0, 0) .ready none) (D := []) S50b (P50b t false (false, 0, 0) .ready none) 8 (by (repeat' first|exact fp|refine aN ?_ ?_)) rfl rfl) ?_
 refine CallP.entR h1 ?_
 exact entUnpack (n := 9) (T := [some (none, .tup [])]) (H := GP50b t bo co (C50b t R true)) (D := []) S50b (P50b t R.1 R .ready none) 8 rfl rfl rfl ⟨trivial, trivial, trivial, trivial, trivial, trivial⟩
def row50b : Nat → List SV := fun _ => [.fn (.func 82) [] [.ptr 4 0]]
def spn50b (t : TK) : Nat → List SV := fun _ => [.int .i64 (hull (t.trs.map fun x => t.mostF x t.n)).1, .int .i64 (hull (t.trs.map fun x => t.mostF x t.n)).2]
def HS50b (t : TK) (bo : Bool) (co : Nat) : SHeap := HQ t bo co ++ [some (.roa 1 1 row50b), some (.cells (tb t))]
def HD50b (t : TK) (bo : Bool) (co : Nat) : SHeap := HQ t bo co ++ [some .dead, some .dead]
def K50b (t : TK) (bo : Bool) (co : Nat) : CE → SHeap → Prop := fun ce h' =>
 (t.trs = [] ∧ ce = .panic (panE 10) ∧ h' = HD50b t bo co) ∨ (t.trs ≠ [] ∧ ∃ c, 1 ≤ c ∧ ce = .ret (.slice 5 2 0 1 c) ∧ h' = HD50b t bo co ++ [some (.arr 2 1 c (spn50b t))])
theorem t50b (t : TK) (hv : t.Valid) (bo : Bool) (co : Nat) (hbo : OrdV t bo co) : CallP Try.prog 50 [.ptr 1 0, .slice 3 1 0 1 1] (HS50b t bo co) (K50b t bo co) := by
 have c := r50b t hv bo co hbo
 have hR0 : (msOf (t.trs.map fun x => t.mostF x t.n) = (false, 0, 0) ∧ t.trs = []) ∨ (t.trs ≠ [] ∧ msOf (t.trs.map fun x => t.mostF x t.n) = (true, (hull (t.trs.map fun x => t.mostF x t.n)).1, (hull (t.trs.map fun x => t.mostF x t.n)).2)) := by
  cases hT : t.trs with
  | nil => exact .inl ⟨rfl, rfl⟩
  | cons x l => exact .inr ⟨List.cons_ne_nil _ _, rfl⟩
 obtain ⟨R, hR⟩ : ∃ R : Ms, msOf (t.trs.map fun x => t.mostF x t.n) = R := ⟨_, rfl⟩
 rw [hR] at c hR0
 unfold K50b spn50b
 obtain ⟨u, hu⟩ : ∃ u : Int × Int, hull (t.trs.map fun x => t.mostF x t.n) = u := ⟨_, rfl⟩
 rw [hu] at hR0 ⊢
 have hcl : R.1 = true ∨ R.1 = false := by cases R.1 <;> simp
 refine callMK (E := E) E_ok Try.func50 rfl ?_
 (repeat' first|exact ap|refine aN ?_ ?_)
 all_goals first | exact om | skip
 all_goals first | (show ((ti134.bytes : Nat) : Int) * ((1 : Nat) : Int) ≤ _; decide) | skip
 refine loopP E_ok [0, 5, 17, 18] (fun j : Nat => [(19, .int .i64 j)]) (fun j _ => match j with
   | 0 => HS50b t bo co ++ [some (.arr 4 1 1 (mrow (.fnil) (false, 0, 0))), some (.cells [.slice 5 4 0 1 1])]
   | _ => HS50b t bo co ++ [some (.arr 4 1 1 (mrow (.fn (.func 82) [] [.ptr 4 0]) (false, 0, 0))), some (.cells [.slice 5 4 0 1 1])]) (fun j => j ≤ 1) (fun j => 1 - j) 0 (Nat.zero_le _) ?_ ?_
 ·refine ent_tau [0, 1, 2, 3, 4, 5, 6] ⟨?_, by (repeat' first|exact tm|refine aN ?_ ?_), rfl⟩
  (repeat' first|exact fp|refine aN ?_ ?_)
  all_goals exact one1' rfl
 rintro j hj
 have hj2 : j = 0 ∨ j = 1 := by omega
 rcases hj2 with rfl | rfl
 ·all_goals (repeat' first|exact ap|refine aN ?_ ?_)
  all_goals first | exact gd | skip
  all_goals intro h1
  all_goals first | exact absurd h1 (by decide) | (cases h1; done) | skip
  (repeat' first|exact ap|refine aN ?_ ?_)
  all_goals first | exact om | skip
  refine ⟨1, by omega, by omega, ?_⟩
  refine ent_tau [0, 1, 2, 3, 4, 5, 6] ⟨?_, by (repeat' first|exact tm|refine aN ?_ ?_), rfl⟩
  (repeat' first|exact fp|refine aN ?_ ?_)
  all_goals exact one1' rfl
 ·all_goals (repeat' first|exact ap|refine aN ?_ ?_)
  all_goals first | exact gd | skip
  all_goals intro h1
  all_goals first | exact absurd h1 (by decide) | (cases h1; done) | skip
  (repeat' first|exact ap|refine aN ?_ ?_)
  all_goals first | exact om | skip
  refine (t67o t bo co).use [0, 1, 2] ?_ (by (repeat' first|exact fp|refine aN ?_ ?_)) rfl
  (repeat' first|exact ap|refine aN ?_ ?_)
  refine rangeP E_ok rfl rfl ?_
  refine c.use [0, 1, 2, 6, 7, 5, 4, 8, 10] ?_ (by (repeat' first|exact fp|refine aN ?_ ?_)) rfl
  refine ⟨by decide, ?_⟩
  rcases hR0 with ⟨rfl, hne⟩ | ⟨hne, rfl⟩
  ·(repeat' first|exact ap|refine aN ?_ ?_)
   all_goals first | exact om | skip
   refine must (fun hb => ?_) (fun hb => ?_)
   ·exact absurd hb (by decide)
   ·(repeat' first|exact ap|refine aN ?_ ?_)
    ·exact fun o h => h
    refine ⟨_, _, .inl ⟨hne, rfl, rfl⟩, ?_⟩
    exact ent_tau [0, 1, 2, 3, 4] ⟨by (repeat' first|exact fp|refine aN ?_ ?_), by (repeat' first|exact tm|refine aN ?_ ?_), rfl⟩
  ·(repeat' first|exact ap|refine aN ?_ ?_)
   all_goals first | exact om | skip
   refine must (fun hb => ?_) (fun hb => ?_)
   ·(repeat' first|exact ap|refine aN ?_ ?_)
    all_goals first | exact om | skip
    refine loopP E_ok [46, 47] (fun g : Nat × Nat => [(48, .int .i64 g.1), (11, match g.1 with | 0 => .snil | _ => .slice 11 2 0 g.1 g.2)]) (fun g H => match g.1 with
      | 0 => HQ t bo co ++ [some (.roa 1 1 row50b), some .dead, some (.arr 4 1 1 (mrow (.fn (.func 82) [] [.ptr 4 0]) (true, u.1, u.2))), some (.cells [.slice 5 4 0 1 1]), some .dead, some .dead, some (.obj isDfr), some .dead]
      | _ => HQ t bo co ++ [some (.roa 1 1 row50b), some .dead, some (.arr 4 1 1 (mrow (.fn (.func 82) [] [.ptr 4 0]) (true, u.1, u.2))), some (.cells [.slice 5 4 0 1 1]), some .dead, some .dead, some (.obj isDfr), some .dead, some (.arr 2 1 g.2 (fun _ => [.int .i64 u.1, .int .i64 u.2]))]) (fun g => g.1 ≤ 1 ∧ (0 < g.1 → g.1 ≤ g.2 ∧ g.2 ≤ 9223372036854775807)) (fun g => 1 - g.1) (0, 0) ⟨Nat.zero_le _, fun h => absurd h (Nat.lt_irrefl 0)⟩ ?_ ?_
    ·refine ent_tau [0, 1, 2, 3, 4, 5, 6, 7, 8, 9, 10] ⟨?_, by (repeat' first|exact tm|refine aN ?_ ?_), rfl⟩
     (repeat' first|exact fp|refine aN ?_ ?_)
     exact fun o h => h
    rintro ⟨j, c⟩ ⟨hj, hjc⟩
    simp only at hj hjc
    have hj2 : j = 0 ∨ j = 1 := by omega
    rcases hj2 with rfl | rfl
    ·all_goals (repeat' first|exact ap|refine aN ?_ ?_)
     all_goals first | exact gd | skip
     all_goals intro h1
     all_goals first | exact absurd h1 (by decide) | (cases h1; done) | skip
     (repeat' first|exact ap|refine aN ?_ ?_)
     all_goals first | exact om | skip
     all_goals first | exact (hjc (by omega)).2 | (show 1 * ti28.bytes ≤ _; decide) | (show 1 * ti28.bytes ≤ _; decide) | skip
     intro c' hc1 hc2
     (repeat' first|exact ap|refine aN ?_ ?_)
     all_goals first | exact om | skip
     refine ⟨(1, c'), ⟨by simp only; omega, fun _ => ⟨hc1, hc2⟩⟩, by simp only; omega, ?_⟩
     refine ent_tau [0, 1, 2, 3, 4, 5, 6, 7, 8, 9, 10, 13] ⟨?_, by (repeat' first|exact tm|refine aN ?_ ?_), rfl⟩
     (repeat' first|exact fp|refine aN ?_ ?_)
     all_goals first | exact fun o h => h | skip
     all_goals exact one1' rfl
    ·all_goals (repeat' first|exact ap|refine aN ?_ ?_)
     all_goals first | exact gd | skip
     all_goals intro h1
     all_goals first | exact absurd h1 (by decide) | (cases h1; done) | skip
     (repeat' first|exact ap|refine aN ?_ ?_)
     all_goals first | exact om | skip
     ·exact fun o h => h
     refine ⟨_, _, .inr ⟨hne, c, (hjc (by omega)).1, rfl, rfl⟩, ?_⟩
     refine ent_tau [0, 1, 2, 3, 4, 11] ⟨?_, by (repeat' first|exact tm|refine aN ?_ ?_), rfl⟩
     (repeat' first|exact fp|refine aN ?_ ?_)
   ·cases hb
end Go.Proofs.Ytioajogaghgipaa
/-
 Contract: ticket.Busy.
-/
namespace Go.Proofs.Ytioajogaghgipaa
open Go Go.Sy Tic
set_option linter.unusedSimpArgs false
set_option maxRecDepth 100000
set_option maxHeartbeats 4000000
attribute [local irreducible] CallP CodeP Ent YieldP
set_option maxHeartbeats 16000000

def K50ba (t : TK) : CE → SHeap → Prop := fun ce h' =>
 (t.trs = [] ∧ ce = .panic (panE 10) ∧ h' = [some (.roa 5 t.n (TF t)), some .dead, some .dead, some .dead, some .dead]) ∨ (t.trs ≠ [] ∧ ∃ c, 1 ≤ c ∧ ce = .ret (.slice 5 2 0 1 c) ∧ h' = [some (.roa 5 t.n (TF t)), some .dead, some .dead, some .dead, some .dead, some (.arr 2 1 c (spn50b t))])
def K50bz (t : TK) : CE → SHeap → Prop := fun ce h' =>
 ∃ c, 1 ≤ c ∧ ce = .ret (.slice 4 2 0 1 c) ∧ h' = [some (.roa 5 t.n (TF t)), some .dead, some .dead, some .dead, some (.arr 2 1 c (spn50b t))]
def rowzb : Nat → List SV := fun _ => [.fn (.func 82) [] [.ptr 3 0]]
theorem t50ba (t : TK) (hv : t.Valid) (h0 : 0 < t.n) (c : Nat) (hc : t.n ≤ c) : CallP Try.prog 50 [.ptr 1 0, .slice 3 1 0 1 1] (HA t c ++ [some (.roa 1 1 row50b), some (.cells (tb t))]) (K50ba t) := by
 have h := t50b t hv true c (.inr ⟨h0, rfl, hc⟩)
 refine CallP.ent (CallP.pre (h' := HS50b t true c) (Ent.trans (entCells (i := 1) (cs' := [.int .i64 t.huts, .osl t.b 0 5 t.n t.cap, .osl true 2 1 t.n c]) rfl (fun η => by simp [denL, den])) ?_) (h.mono fun ce h1 hk => ?_))
 ·exact ent_tau [0, 1, 2, 3, 4] ⟨by (repeat' first|exact fp|refine aN ?_ ?_), by (repeat' first|exact tm|refine aN ?_ ?_), rfl⟩
 ·rcases hk with ⟨hne, rfl, rfl⟩ | ⟨hne, c', hc', rfl, rfl⟩
  ·refine ⟨_, _, .inl ⟨hne, rfl, rfl⟩, ?_⟩
   show Ent 5 ⟨[some (none, panE 10)], _, []⟩ ⟨[some (none, panE 10)], _, []⟩
   exact ent_tau [0, 1, 2, 3, 4] ⟨by (repeat' first|exact fp|refine aN ?_ ?_), by (repeat' first|exact tm|refine aN ?_ ?_), rfl⟩
  ·refine ⟨_, _, .inr ⟨hne, c', hc', rfl, rfl⟩, ?_⟩
   show Ent 5 ⟨[some (none, .slice 5 2 0 1 c')], _, []⟩ ⟨[some (none, .slice 5 2 0 1 c')], _, []⟩
   exact ent_tau [0, 1, 2, 3, 4, 5] ⟨by (repeat' first|exact fp|refine aN ?_ ?_), by (repeat' first|exact tm|refine aN ?_ ?_), rfl⟩
theorem t50bz (t : TK) (hv : t.Valid) (h0 : t.n = 0) : CallP Try.prog 50 [.ptr 1 0, .slice 2 1 0 1 1] (HZ t ++ [some (.roa 1 1 rowzb), some (.cells (tb t))]) (K50bz t) := by
 have h := t50b t hv false 0 (.inl ⟨h0, rfl, rfl⟩)
 have hn := valid0 hv h0
 have hal : Ent 4 ⟨argT [.ptr 1 0, .slice 2 1 0 1 1], HZ t ++ [some (.roa 1 1 rowzb), some (.cells (tb t))], []⟩ ⟨argT [.ptr 1 0, .slice 2 1 0 1 1], [some (.roa 5 t.n (TF t)), some (.cells [.int .i64 t.huts, .osl t.b 0 5 t.n t.cap, .osl false 4 1 t.n 0]), some (.roa 1 1 rowzb), some (.cells (tb t)), some (.roa 1 t.n (rowO (ord t)))], []⟩ := by
  unfold HZ tb
  rw [h0]
  refine (entCells (i := 1) (cs' := [.int .i64 t.huts, .osl t.b 0 5 0 t.cap, .osl false 4 1 0 0]) rfl (fun η => by simp [denL, den])).trans ?_
  exact entAlias (i := 0) rfl 1 (rowO (ord t))
 refine CallP.ent (CallP.pre hal (CallP.frameH h [0, 1, 4, 2, 3] (by (repeat' first|exact fp|refine aN ?_ ?_)) rfl ?_))
 rintro ce h' (⟨hne, rfl, rfl⟩ | ⟨hne, c', hc', rfl, rfl⟩)
 ·exact absurd hne hn
 ·refine ⟨rfl, ?_⟩
  refine ⟨_, _, ⟨c', hc', rfl, rfl⟩, ?_⟩
  exact ent_tau [0, 1, 2, 3, 5] ⟨by (repeat' first|exact fp|refine aN ?_ ?_), by (repeat' first|exact tm|refine aN ?_ ?_), rfl⟩
theorem t26 (t : TK) (hn : t.n ≤ 1000000) (hh : InR .i64 t.huts) : CallP Try.prog 26 [TA t] (TH t) (Ret (.tup [.agg [.int .i64 (spT t t.busy).1, .int .i64 (spT t t.busy).2.1], .int .i64 (spT t t.busy).2.2]) (TH t)) := by
 refine callD (E := E) E_ok Try.func26 rfl Try.func81 ⟨_, _, _, _, _, _, _, _, rfl, rfl, rfl⟩ rfl rfl ?_
 (repeat' first|exact ap|refine aN ?_ ?_)
 refine CallP.frame (t48 t true hn hh) [0] (by (repeat' first|exact fp|refine aN ?_ ?_)) (apartB_ok rfl) rfl ?_
 rintro ce h' (⟨hv, hb, h0, rfl, rfl⟩ | ⟨hv, hb, h0, c, hc, rfl, rfl⟩ | ⟨hv, rfl, rfl⟩ | ⟨hv, hb, rfl, rfl⟩)
 ·refine ⟨ownB_ok rfl, ?_⟩
  have e0 : spT t t.busy = ((t.busy).1, (t.busy).2, 0) := by unfold spT; rw [if_neg (by simpa using hv), if_neg (valid0 hv h0)]
  (repeat' first|exact ap|refine aN ?_ ?_)
  refine CallP.frame (t50bz t hv h0) [0, 4, 5, 1] (by (repeat' first|exact fp|refine aN ?_ ?_); all_goals exact one1' rfl) (apartB_ok rfl) rfl ?_
  rintro ce h' ⟨c', hc', rfl, rfl⟩
  refine ⟨ownB_ok rfl, ?_⟩
  (repeat' first|exact ap|refine aN ?_ ?_)
  all_goals first | exact om | skip
  refine (t47n 0).use [3] ?_ (by (repeat' first|exact fp|refine aN ?_ ?_)) rfl
  (repeat' first|exact ap|refine aN ?_ ?_)
  refine ⟨_, _, ⟨rfl, rfl⟩, ?_⟩
  rw [e0]
  exact ent_tau [0] ⟨by (repeat' first|exact fp|refine aN ?_ ?_), by (repeat' first|exact tm|refine aN ?_ ?_), rfl⟩
 ·refine ⟨ownB_ok rfl, ?_⟩
  (repeat' first|exact ap|refine aN ?_ ?_)
  refine CallP.frame (t50ba t hv h0 c hc.1) [0, 4, 5, 6, 1] (by (repeat' first|exact fp|refine aN ?_ ?_); all_goals exact one1' rfl) (apartB_ok rfl) rfl ?_
  rintro ce h' (⟨hne, rfl, rfl⟩ | ⟨hne, c', hc', rfl, rfl⟩)
  ·refine ⟨ownB_ok rfl, ?_⟩
   have e0 : spT t t.busy = (0, 0, 10) := by unfold spT; rw [if_neg (by simpa using hv), if_pos hne]
   (repeat' first|exact ap|refine aN ?_ ?_)
   refine (t47s 10 0).use [3] ?_ (by (repeat' first|exact fp|refine aN ?_ ?_)) rfl
   (repeat' first|exact ap|refine aN ?_ ?_)
   refine ⟨_, _, ⟨rfl, rfl⟩, ?_⟩
   rw [e0]
   exact ent_tau [0] ⟨by (repeat' first|exact fp|refine aN ?_ ?_), by (repeat' first|exact tm|refine aN ?_ ?_), rfl⟩
  ·refine ⟨ownB_ok rfl, ?_⟩
   have e0 : spT t t.busy = ((t.busy).1, (t.busy).2, 0) := by unfold spT; rw [if_neg (by simpa using hv), if_neg hne]
   (repeat' first|exact ap|refine aN ?_ ?_)
   all_goals first | exact om | skip
   refine (t47n 0).use [3] ?_ (by (repeat' first|exact fp|refine aN ?_ ?_)) rfl
   (repeat' first|exact ap|refine aN ?_ ?_)
   refine ⟨_, _, ⟨rfl, rfl⟩, ?_⟩
   rw [e0]
   exact ent_tau [0] ⟨by (repeat' first|exact fp|refine aN ?_ ?_), by (repeat' first|exact tm|refine aN ?_ ?_), rfl⟩
 ·refine ⟨ownB_ok rfl, ?_⟩
  have e0 : spT t t.busy = (0, 0, 1) := by unfold spT; rw [if_pos hv]
  (repeat' first|exact ap|refine aN ?_ ?_)
  refine (t47s 1 0).use [3] ?_ (by (repeat' first|exact fp|refine aN ?_ ?_)) rfl
  (repeat' first|exact ap|refine aN ?_ ?_)
  refine ⟨_, _, ⟨rfl, rfl⟩, ?_⟩
  rw [e0]
  exact ent_tau [0] ⟨by (repeat' first|exact fp|refine aN ?_ ?_), by (repeat' first|exact tm|refine aN ?_ ?_), rfl⟩
 ·cases hb
end Go.Proofs.Ytioajogaghgipaa
