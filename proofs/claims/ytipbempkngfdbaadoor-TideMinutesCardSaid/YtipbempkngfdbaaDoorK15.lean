/-
  Parts: B2, B3, B5, B27, C4, B19.
-/
import Derived.Test.YtipbempkngfdbaaDoorK14
import Derived.Test.YtipbempkngfdbaaDoorK11
import Derived.Lib.LaidTab
import Derived.Stop.LaidErr
import Derived.ProofKit
import Derived.OpenShut
import Derived.Carry
set_option linter.unusedVariables false
/-
  The iterator of all truths, with the loop that gathers them.
-/
namespace Go.Proofs.YtipbempkngfdbaaDoor
open Go Go.Sy
set_option linter.unusedSimpArgs false
set_option maxRecDepth 100000
set_option maxHeartbeats 4000000
attribute [local irreducible] CallP CodeP Ent YieldP

noncomputable def H104 (t : TD) (g : List Tr) : SHeap := [some (.roc [.osl t.bM 1 3 t.nM t.cM, .osl t.bS 2 2 t.nS t.cS, .osl t.bL 3 4 t.nL t.cL, .map 4]),
  some (.roa 3 t.nM (row3 t.mi t.mlo t.mhi)), some (.roa 2 t.nS (row2 t.slo t.shi)), some (.roa 4 t.nL (row4 t.lp t.lm t.llo t.lhi)), some (.memo 5 t.F []),
  some (.glob 0 [.int .i64 0, .int .i64 1, .int .i64 3, .int .i64 6, .int .i64 9, .int .i64 11, .int .i64 12]),
  some (.roc [.ptr 0 0]), some (.roc [.fn (.func 104) [] [.ptr 6 0, .ptr 7 0, .ptr 8 0, .ptr 9 0]]), some (.roc [.int .u64 (2 ^ t.nL - 1)]), some (.roc [.yld 10]),
  some (L118 11), some (V118 g)]

theorem catF_mono {f : Int → List Tr} {lo : Int} {a b : Nat} (h : a ≤ b) : (catF f lo a).length ≤ (catF f lo b).length := by
  induction h with
  | refl => exact Nat.le_refl _
  | step _ ih => simp only [catF, List.length_append]; omega
theorem cell_at (i : Nat) (hi : i < 4) (a b c d v : Int) : ([if 0 = (i : Int).toNat then v else a, if 1 = (i : Int).toNat then v else b, if 2 = (i : Int).toNat then v else c, if 3 = (i : Int).toNat then v else d] : List Int).getD (i : Int).toNat 0 = v := by
  have : i = 0 ∨ i = 1 ∨ i = 2 ∨ i = 3 := by omega
  rcases this with rfl | rfl | rfl | rfl <;> simp
theorem t104 (t : TD) (hv : t.Valid) : ∀ (r : Nat) (h : Nat → Int) (g : List Tr), r ≤ t.nM → okH h → g.length + (t.tls r h).length ≤ 1000 →
    CallP Tryd.prog 104 [hgt h, .int .i64 ((t.nM - r : Nat)), .ptr 6 0, .ptr 7 0, .ptr 8 0, .ptr 9 0] (H104 t g) (Ret (.bool true) (H104 t (g ++ t.tls r h))) := by
  intro r
  have hM := hv.1
  have hS := hv.2.1
  have hst : ∀ (h : Nat → Int), okH h → ∀ i, i < t.nL → 0 ≤ t.stand h (t.lm i) ∧ t.stand h (t.lm i) ≤ 60 := fun h hh i hi => stand_range hv (hv.2.2.2.2.2 i hi).2.1 hh
  induction r with
  | zero =>
    intro h g hr hh hlen
    refine callR (E := E) E_ok Tryd.func104 rfl ?_
    refine And.intro ?_ (And.intro (fun hc => ?_) (fun hc => ?_))
    · simp [AllP, under, gB, wB, inR_iff, IntKind.bits]
    · simp at hc
    · refine And.intro ?_ ?_
      · simp [AllP, under, gB, wB, inR_iff, IntKind.bits]
      refine loopP E_ok [0, 1, 2, 3, 4, 5, 6, 11, 62, 63] (fun i : Nat => [(64, .int .i64 i)]) (fun i H => H.set 13 (some (.cells [.int .i64 (h 0), .int .i64 (h 1), .int .i64 (h 2), .int .i64 (h 3), .int .u64 (if 0 < i then t.set h 0 else 0), .int .u64 (if 1 < i then t.set h 1 else 0), .int .u64 (if 2 < i then t.set h 2 else 0), .int .u64 (if 3 < i then t.set h 3 else 0)])))
        (fun i => i ≤ t.nS ∧ ∀ j, j < i → t.set h j ≠ 0) (fun i => t.nS - i) 0 ⟨Nat.zero_le _, fun j hj => by omega⟩ ?_ ?_
      · exact ent_tau [0, 1, 2, 3, 4, 5, 6, 7, 8, 9, 10, 11, 12, 13] ⟨by (repeat' (first | exact trivial | exact rfl | exact fun _ _ => rfl | exact Or.inl rfl | refine And.intro ?_ ?_)), by (repeat' (first | exact trivial | exact rfl | exact congrArg (SV.int .i64) (Int.natCast_succ _).symm | refine And.intro ?_ ?_)), rfl⟩
      · rintro i ⟨hi, hall⟩
        refine And.intro ?_ (And.intro (fun hlt => ?_) (fun hlt => ?_))
        · simp [AllP, under, gB, wB, inR_iff, IntKind.bits]
        · have hlt' : i < t.nS := by simpa using hlt
          refine And.intro ?_ ?_
          · simp [AllP, under, gB, wB, inR_iff, IntKind.bits]
          refine (t106 t hv h hh (hst h hh) i hlt').use [0, 1, 2, 3, 4, 5] ?_ (by (repeat' (first | exact trivial | exact rfl | exact fun _ _ => rfl | exact Or.inl rfl | refine And.intro ?_ ?_))) rfl
          refine And.intro ?_ (And.intro (fun hz => ?_) (fun hz => ?_))
          · simp [AllP, under, gB, wB, inR_iff, IntKind.bits]
            omega
          · rw [cell_at i (by omega)] at hz
            have hz' : t.set h i = 0 := by simpa using hz
            have e0 : t.tls 0 h = [] := by
              have : ¬ allB (fun p => !decide (t.set h p = 0)) t.nS = true := fun hx => by
                have := allB_iff.1 hx i hlt'
                simp [hz'] at this
              simp only [TD.tls]
              rw [if_neg this]
            rw [e0, List.append_nil]
            refine And.intro ?_ ?_
            · simp [AllP, under, gB, wB, inR_iff, IntKind.bits]
            refine And.intro trivial ?_
            exact ent_tau [0, 1, 2, 3, 4, 5, 6, 7, 8, 9, 10, 11] ⟨by (repeat' (first | exact trivial | exact rfl | exact fun _ _ => rfl | exact Or.inl rfl | refine And.intro ?_ ?_)), by (repeat' (first | exact trivial | exact rfl | exact congrArg (SV.int .i64) (Int.natCast_succ _).symm | refine And.intro ?_ ?_)), rfl⟩
          · rw [cell_at i (by omega)] at hz
            have hz' : ¬ t.set h i = 0 := by simpa using hz
            refine And.intro ?_ ⟨i + 1, ⟨hlt', fun j hj => ?_⟩, by omega, ?_⟩
            · simp [AllP, under, gB, wB, inR_iff, IntKind.bits]
              omega
            · rcases Nat.lt_or_ge j i with h1 | h1
              · exact hall j h1
              · have : j = i := by omega
                subst this
                exact hz'
            · refine ent_tau [0, 1, 2, 3, 4, 5, 6, 7, 8, 9, 10, 11, 12, 13] ⟨?_, by (repeat' (first | exact trivial | exact rfl | exact congrArg (SV.int .i64) (Int.natCast_succ _).symm | refine And.intro ?_ ?_)), rfl⟩
              (repeat' (first | exact trivial | exact rfl | exact fun _ _ => rfl | exact Or.inl rfl | refine And.intro ?_ ?_))
              have : i = 0 ∨ i = 1 ∨ i = 2 ∨ i = 3 := by omega
              rcases this with rfl | rfl | rfl | rfl <;> simp [renL, ren] <;> rfl
        · have hiL : i = t.nS := by
            have : ¬ (i < t.nS) := by simpa using hlt
            omega
          subst hiL
          have hg : g.length ≤ 1000 := by omega
          have hall' : allB (fun p => !decide (t.set h p = 0)) t.nS = true := allB_iff.2 fun j hj => by simp [hall j hj]
          have e0 : t.tls 0 h = [t.tr h] := by
            simp only [TD.tls]
            rw [if_pos hall']
          rw [e0]
          refine And.intro ?_ ?_
          · simp [AllP, under, gB, wB, inR_iff, IntKind.bits]
          refine And.intro trivial ?_
          refine (y118 g (t.tr h) hg).use [10, 11] ?_ (by (repeat' (first | exact trivial | exact rfl | exact fun _ _ => rfl | exact Or.inl rfl | refine And.intro ?_ ?_))) rfl
          refine And.intro ?_ ?_
          · simp [AllP, under, gB, wB, inR_iff, IntKind.bits]
          exact ent_tau [0, 1, 2, 3, 4, 5, 6, 7, 8, 9, 10, 11] ⟨by (repeat' (first | exact trivial | exact rfl | exact fun _ _ => rfl | exact Or.inl rfl | refine And.intro ?_ ?_)), by (repeat' (first | exact trivial | exact rfl | exact congrArg (SV.int .i64) (Int.natCast_succ _).symm | refine And.intro ?_ ?_)), rfl⟩
  | succ r ih =>
    intro h g hr hh hlen
    have hk4 : t.nM - (r + 1) < 4 := by omega
    have hkM : t.nM - (r + 1) < t.nM := by omega
    have hm := hv.marks hkM
    simp only [TD.markOk] at hm
    have hk1 : t.nM - (r + 1) + 1 = t.nM - r := by omega
    have htl : t.tls (r + 1) h = catF (fun n => t.tls r (upd h (t.nM - (r + 1)) n)) (t.mlo (t.nM - (r + 1))) (t.mhi (t.nM - (r + 1)) - t.mlo (t.nM - (r + 1)) + 1).toNat := rfl
    rw [htl] at hlen ⊢
    generalize hk : t.nM - (r + 1) = k at *
    have ek : (0 + (k : Int).toNat) = k := by omega
    refine callR (E := E) E_ok Tryd.func104 rfl ?_
    refine And.intro ?_ (And.intro (fun hc => ?_) (fun hc => ?_))
    · simp [AllP, under, gB, wB, inR_iff, IntKind.bits]
    · refine And.intro ?_ ?_
      · simp [AllP, under, gB, wB, inR_iff, IntKind.bits]
        omega
      rw [ek]
      refine loopP E_ok [0, 1, 2, 3, 4, 5, 6, 9] (fun j : Nat => [(10, .int .i64 (t.mlo k + j))]) (fun j H => H.set 11 (some (V118 (g ++ catF (fun n => t.tls r (upd h k n)) (t.mlo k) j))))
        (fun j => t.mlo k + j ≤ t.mhi k + 1) (fun j => (t.mhi k + 1 - t.mlo k - j).toNat) 0 (by omega) ?_ ?_
      · refine ent_tau [0, 1, 2, 3, 4, 5, 6, 7, 8, 9, 10, 11, 12] ⟨?_, ?_, rfl⟩
        · (repeat' (first | exact trivial | exact rfl | exact fun _ _ => rfl | exact Or.inl rfl | refine And.intro ?_ ?_))
          · simp [catF]
          · intro x hx
            simp only [catF, List.append_nil]
            rfl
        · (repeat' (first | exact trivial | exact rfl | exact congrArg (SV.int .i64) (Int.natCast_succ _).symm | refine And.intro ?_ ?_))
          exact congrArg (SV.int .i64) (by simp)
      · intro j hj
        refine And.intro ?_ (And.intro (fun hn => ?_) (fun hn => ?_))
        · simp [AllP, under, gB, wB, inR_iff, IntKind.bits]
          omega
        · rw [ek] at hn
          have hn' : t.mlo k + j ≤ t.mhi k := by simpa using hn
          have hsub : (catF (fun n => t.tls r (upd h k n)) (t.mlo k) (j + 1)).length ≤ (catF (fun n => t.tls r (upd h k n)) (t.mlo k) (t.mhi k - t.mlo k + 1).toNat).length := catF_mono (by omega)
          have hcat : catF (fun n => t.tls r (upd h k n)) (t.mlo k) (j + 1) = catF (fun n => t.tls r (upd h k n)) (t.mlo k) j ++ t.tls r (upd h k (t.mlo k + j)) := rfl
          have hl2 : (g ++ catF (fun n => t.tls r (upd h k n)) (t.mlo k) j).length + (t.tls r (upd h k (t.mlo k + j))).length ≤ 1000 := by
            rw [hcat, List.length_append] at hsub
            rw [List.length_append]
            omega
          have ihx := ih (upd h k (t.mlo k + j)) (g ++ catF (fun n => t.tls r (upd h k n)) (t.mlo k) j) (by omega) (okH_upd hh (by omega)) hl2
          have e1 : ((t.nM - r : Nat) : Int) = (k : Int) + 1 := by omega
          rw [e1] at ihx
          refine And.intro ?_ ?_
          · simp [AllP, under, gB, wB, inR_iff, IntKind.bits]
          refine drawP E_ok [] pl104_6 (by kernel_rfl) ?_
          refine And.intro (And.intro ?_ ?_) trivial
          · simp [AllP, under, gB, wB, inR_iff, IntKind.bits]
            omega
          refine (t105 h k hk4 (t.mlo k + j)).use [] ?_ (by (repeat' (first | exact trivial | exact rfl | exact fun _ _ => rfl | exact Or.inl rfl | refine And.intro ?_ ?_))) rfl
          refine And.intro (And.intro ?_ ?_) trivial
          · simp [AllP, under, gB, wB, inR_iff, IntKind.bits]
          refine (ihx).use [0, 1, 2, 3, 4, 5, 6, 7, 8, 9, 10, 11] ?_ (by (repeat' (first | exact trivial | exact rfl | exact fun _ _ => rfl | exact Or.inl rfl | refine And.intro ?_ ?_))) rfl
          refine And.intro ?_ (And.intro rfl ?_)
          · simp [AllP, under, gB, wB, inR_iff, IntKind.bits]
          refine And.intro ?_ (And.intro (fun hb => ?_) (fun hb => ?_))
          · simp [AllP, under, gB, wB, inR_iff, IntKind.bits]
          · simp at hb
          · refine And.intro ?_ ⟨j + 1, by omega, by omega, ?_⟩
            · simp [AllP, under, gB, wB, inR_iff, IntKind.bits]
              omega
            · refine ent_tau [0, 1, 2, 3, 4, 5, 6, 7, 8, 9, 10, 11, 12] ⟨?_, ?_, rfl⟩
              · (repeat' (first | exact trivial | exact rfl | exact fun _ _ => rfl | exact Or.inl rfl | refine And.intro ?_ ?_))
                · simp [catF]
                · intro x hx
                  rw [hcat, ← List.append_assoc]
                  rfl
              · (repeat' (first | exact trivial | exact rfl | exact congrArg (SV.int .i64) (Int.natCast_succ _).symm | refine And.intro ?_ ?_))
                exact congrArg (SV.int .i64) (by push_cast; omega)
        · rw [ek] at hn
          have hn' : ¬ (t.mlo k + j ≤ t.mhi k) := by simpa using hn
          have ej : (t.mhi k - t.mlo k + 1).toNat = j := by omega
          rw [ej]
          refine And.intro ?_ ?_
          · simp [AllP, under, gB, wB, inR_iff, IntKind.bits]
          refine And.intro trivial ?_
          exact ent_tau [0, 1, 2, 3, 4, 5, 6, 7, 8, 9, 10, 11] ⟨by (repeat' (first | exact trivial | exact rfl | exact fun _ _ => rfl | exact Or.inl rfl | refine And.intro ?_ ?_)), by (repeat' (first | exact trivial | exact rfl | exact congrArg (SV.int .i64) (Int.natCast_succ _).symm | refine And.intro ?_ ?_)), rfl⟩
    · simp at hc
      omega
end Go.Proofs.YtipbempkngfdbaaDoor
/-
  All truths, gathered.
-/
namespace Go.Proofs.YtipbempkngfdbaaDoor
open Go Go.Sy
set_option linter.unusedSimpArgs false
set_option maxRecDepth 100000
set_option maxHeartbeats 4000000
attribute [local irreducible] CallP CodeP Ent YieldP

noncomputable def H103 (t : TD) (g : List Tr) : SHeap := [some (.roc [.osl t.bM 1 3 t.nM t.cM, .osl t.bS 2 2 t.nS t.cS, .osl t.bL 3 4 t.nL t.cL, .map 4]),
  some (.roa 3 t.nM (row3 t.mi t.mlo t.mhi)), some (.roa 2 t.nS (row2 t.slo t.shi)), some (.roa 4 t.nL (row4 t.lp t.lm t.llo t.lhi)), some (.memo 5 t.F []),
  some (.glob 0 [.int .i64 0, .int .i64 1, .int .i64 3, .int .i64 6, .int .i64 9, .int .i64 11, .int .i64 12]),
  some (.roc [.ptr 0 0]), some (.roc [.int .u64 (2 ^ t.nL - 1)]), some (L118 9), some (V118 g)]

theorem t103 (t : TD) (hv : t.Valid) (g : List Tr) (hg : g.length ≤ 100) : CallP Tryd.prog 103 [.yld 8, .ptr 6 0, .ptr 7 0] (H103 t g) (Ret (.tup []) (H103 t (g ++ t.all))) := by
  have hl := all_len hv
  have h0 : okH (fun _ => 0) := fun i => ⟨Int.le_refl _, by show (0 : Int) ≤ 60; decide⟩
  have hc := t104 t hv t.nM (fun _ => 0) g (Nat.le_refl _) h0 (by show g.length + t.all.length ≤ 1000; omega)
  have e : ((t.nM - t.nM : Nat) : Int) = 0 := by simp
  rw [e] at hc
  refine callR (E := E) E_ok Tryd.func103 rfl ?_
  refine And.intro ?_ ?_
  · simp [AllP, under, gB, wB, inR_iff, IntKind.bits]
  refine (hc).use [0, 1, 2, 3, 4, 5, 6, 11, 7, 10, 8, 9] ?_ (by (repeat' (first | exact trivial | exact rfl | exact fun _ _ => rfl | exact Or.inl rfl | refine And.intro ?_ ?_))) rfl
  refine And.intro ?_ ?_
  · simp [AllP, under, gB, wB, inR_iff, IntKind.bits]
  exact ent_tau [0, 1, 2, 3, 4, 5, 6, 7, 8, 9] ⟨by (repeat' (first | exact trivial | exact rfl | exact fun _ _ => rfl | exact Or.inl rfl | refine And.intro ?_ ?_)), by (repeat' (first | exact trivial | exact rfl | exact congrArg (SV.int .i64) (Int.natCast_succ _).symm | refine And.intro ?_ ?_)), rfl⟩

noncomputable def H64 (t : TD) : SHeap := [some (.roc [.osl t.bM 1 3 t.nM t.cM, .osl t.bS 2 2 t.nS t.cS, .osl t.bL 3 4 t.nL t.cL, .map 4]),
  some (.roa 3 t.nM (row3 t.mi t.mlo t.mhi)), some (.roa 2 t.nS (row2 t.slo t.shi)), some (.roa 4 t.nL (row4 t.lp t.lm t.llo t.lhi)), some (.memo 5 t.F []),
  some (.glob 0 [.int .i64 0, .int .i64 1, .int .i64 3, .int .i64 6, .int .i64 9, .int .i64 11, .int .i64 12]),
  some (.roc [.ptr 0 0]), some (.roc [.int .u64 (2 ^ t.nL - 1)])]
/-- A slice of truths. -/
def KSl (base : SHeap) (i : Nat) (g : List Tr) : CE → SHeap → Prop := fun ce h' =>
  (g = [] ∧ ce = .ret .snil ∧ h' = base) ∨ (0 < g.length ∧ ∃ cap, g.length ≤ cap ∧ cap ≤ 9223372036854775807 ∧ ce = .ret (.slice i 8 0 g.length cap) ∧ h' = base ++ [some (.arr 8 g.length cap (rows g))])

theorem t118 (t : TD) (hv : t.Valid) : CallP Tryd.prog 118 [.snil, .fn (.func 103) [] [.ptr 6 0, .ptr 7 0]] (H64 t) (KSl (H64 t) 8 t.all) := by
  refine callM (E := E) E_ok Tryd.func118 rfl ?_
  refine And.intro ?_ ?_
  · simp [AllP, under, gB, wB, inR_iff, IntKind.bits]
  refine rangeP E_ok rfl rfl ?_
  refine CallP.pre (vecNil (i := 8) 8 (rows []) rfl) (CallP.postVec (i := 8) ?_)
  refine (t103 t hv [] (by simp)).use [0, 1, 2, 3, 4, 5, 6, 7, 10, 8] ?_ (by (repeat' (first | exact trivial | exact rfl | exact fun _ _ => rfl | exact Or.inl rfl | refine And.intro ?_ ?_))) rfl
  refine ⟨_, _, _, rfl, fun h0 => ?_, fun h0 cap hc1 hc2 => ?_⟩
  · refine ⟨by decide, ?_⟩
    refine And.intro ?_ ?_
    · simp [AllP, under, gB, wB, inR_iff, IntKind.bits]
    refine And.intro (fun o h => h) ?_
    refine And.intro ?_ ?_
    · simp [AllP, under, gB, wB, inR_iff, IntKind.bits]
    have e : t.all = [] := List.eq_nil_of_length_eq_zero (by simpa using h0)
    refine ⟨_, _, .inl ⟨e, rfl, rfl⟩, ?_⟩
    exact ent_tau [0, 1, 2, 3, 4, 5, 6, 7] ⟨by (repeat' (first | exact trivial | exact rfl | exact fun _ _ => rfl | exact Or.inl rfl | refine And.intro ?_ ?_)), by (repeat' (first | exact trivial | exact rfl | exact congrArg (SV.int .i64) (Int.natCast_succ _).symm | refine And.intro ?_ ?_)), rfl⟩
  · refine ⟨by decide, ?_⟩
    refine And.intro ?_ ?_
    · simp [AllP, under, gB, wB, inR_iff, IntKind.bits]
    refine And.intro (fun o h => h) ?_
    refine And.intro ?_ ?_
    · simp [AllP, under, gB, wB, inR_iff, IntKind.bits]
    rw [List.nil_append] at h0 hc1
    refine ⟨_, _, .inr ⟨h0, cap, hc1, hc2, rfl, rfl⟩, ?_⟩
    refine ent_tau [0, 1, 2, 3, 4, 5, 6, 7, 11] ⟨?_, ?_, rfl⟩
    · (repeat' (first | exact trivial | exact rfl | exact fun _ _ => rfl | exact Or.inl rfl | refine And.intro ?_ ?_))
    · (repeat' (first | exact trivial | exact rfl | exact congrArg (SV.int .i64) (Int.natCast_succ _).symm | refine And.intro ?_ ?_))
theorem t97 (t : TD) (hv : t.Valid) : CallP Tryd.prog 97 [.fn (.func 103) [] [.ptr 6 0, .ptr 7 0]] (H64 t) (KSl (H64 t) 8 t.all) := by
  refine callK (E := E) E_ok Tryd.func97 rfl ?_
  refine And.intro ?_ ?_
  · simp [AllP, under, gB, wB, inR_iff, IntKind.bits]
  refine CallP.frame (t118 t hv) [0, 1, 2, 3, 4, 5, 6, 7] (by (repeat' (first | exact trivial | exact rfl | exact fun _ _ => rfl | exact Or.inl rfl | refine And.intro ?_ ?_))) (apartB_ok rfl) rfl ?_
  rintro ce h' (⟨h0, rfl, rfl⟩ | ⟨h0, cap, hc1, hc2, rfl, rfl⟩)
  · refine ⟨ownB_ok rfl, ?_⟩
    refine And.intro ?_ ?_
    · simp [AllP, under, gB, wB, inR_iff, IntKind.bits]
    refine ⟨_, _, .inl ⟨h0, rfl, rfl⟩, ?_⟩
    exact ent_tau [0, 1, 2, 3, 4, 5, 6, 7] ⟨by (repeat' (first | exact trivial | exact rfl | exact fun _ _ => rfl | exact Or.inl rfl | refine And.intro ?_ ?_)), by (repeat' (first | exact trivial | exact rfl | exact congrArg (SV.int .i64) (Int.natCast_succ _).symm | refine And.intro ?_ ?_)), rfl⟩
  · refine ⟨ownB_ok rfl, ?_⟩
    refine And.intro ?_ ?_
    · simp [AllP, under, gB, wB, inR_iff, IntKind.bits]
    refine ⟨_, _, .inr ⟨h0, cap, hc1, hc2, rfl, rfl⟩, ?_⟩
    exact ent_tau [0, 1, 2, 3, 4, 5, 6, 7, 8] ⟨by (repeat' (first | exact trivial | exact rfl | exact fun _ _ => rfl | exact Or.inl rfl | refine And.intro ?_ ?_)), by (repeat' (first | exact trivial | exact rfl | exact congrArg (SV.int .i64) (Int.natCast_succ _).symm | refine And.intro ?_ ?_)), rfl⟩
theorem t64 (so : Int) : CallP Tryd.prog 64 [.ptr 0 0, .int .u64 so] [some .dead] (Ret (.fn (.func 103) [] [.ptr 1 0, .ptr 2 0]) [some .dead, some (.cells [.ptr 0 0]), some (.cells [.int .u64 so])]) := by
  refine callR (E := E) E_ok Tryd.func64 rfl ?_
  refine And.intro ?_ ?_
  · simp [AllP, under, gB, wB, inR_iff, IntKind.bits]
  exact ent_tau [0, 1, 2] ⟨by (repeat' (first | exact trivial | exact rfl | exact fun _ _ => rfl | exact Or.inl rfl | refine And.intro ?_ ?_)), by (repeat' (first | exact trivial | exact rfl | exact congrArg (SV.int .i64) (Int.natCast_succ _).symm | refine And.intro ?_ ?_)), rfl⟩
theorem t48 (t : TD) (hv : t.Valid) : CallP Tryd.prog 48 [.ptr 0 0] t.sh (fun ce h' =>
    (t.all = [] ∧ ce = .panic (.iface 121 (.agg [.int .i64 10])) ∧ h' = t.sh) ∨ (0 < t.all.length ∧ ∃ cap, t.all.length ≤ cap ∧ cap ≤ 9223372036854775807 ∧ ce = .ret (.slice 6 8 0 t.all.length cap) ∧ h' = t.sh ++ [some (.arr 8 t.all.length cap (rows t.all))])) := by
  refine callK (E := E) E_ok Tryd.func48 rfl ?_
  refine And.intro ?_ ?_
  · simp [AllP, under, gB, wB, inR_iff, IntKind.bits]
  refine (t63 t hv).use [0, 1, 2, 3, 4, 5] ?_ (by (repeat' (first | exact trivial | exact rfl | exact fun _ _ => rfl | exact Or.inl rfl | refine And.intro ?_ ?_))) rfl
  refine And.intro ?_ ?_
  · simp [AllP, under, gB, wB, inR_iff, IntKind.bits]
  refine (t64 (2 ^ t.nL - 1)).use [0] ?_ (by (repeat' (first | exact trivial | exact rfl | exact fun _ _ => rfl | exact Or.inl rfl | refine And.intro ?_ ?_))) rfl
  refine And.intro ?_ ?_
  · simp [AllP, under, gB, wB, inR_iff, IntKind.bits]
  refine CallP.frame (t97 t hv) [0, 1, 2, 3, 4, 5, 6, 7] (by (repeat' (first | exact trivial | exact rfl | exact fun _ _ => rfl | exact Or.inl rfl | refine And.intro ?_ ?_))) (apartB_ok rfl) rfl ?_
  rintro ce h' (⟨h0, rfl, rfl⟩ | ⟨h0, cap, hc1, hc2, rfl, rfl⟩)
  · refine ⟨ownB_ok rfl, ?_⟩
    refine And.intro ?_ ?_
    · simp [AllP, under, gB, wB, inR_iff, IntKind.bits]
    refine (t65_false 10).useP [] ?_ (by (repeat' (first | exact trivial | exact rfl | exact fun _ _ => rfl | exact Or.inl rfl | refine And.intro ?_ ?_))) rfl
    refine And.intro ?_ ⟨_, _, .inl ⟨h0, rfl, rfl⟩, ?_⟩
    · simp [AllP, under, gB, wB, inR_iff, IntKind.bits]
    exact ent_tau [0, 1, 2, 3, 4, 5] ⟨by (repeat' (first | exact trivial | exact rfl | exact fun _ _ => rfl | exact Or.inl rfl | refine And.intro ?_ ?_)), by (repeat' (first | exact trivial | exact rfl | exact congrArg (SV.int .i64) (Int.natCast_succ _).symm | refine And.intro ?_ ?_)), rfl⟩
  · refine ⟨ownB_ok rfl, ?_⟩
    have hd : decide ((t.all.length : Int) > 0) = true := by simpa using h0
    refine And.intro ?_ ?_
    · simp [AllP, under, gB, wB, inR_iff, IntKind.bits]
    rw [hd]
    refine (t65_true 10).use [] ?_ (by (repeat' (first | exact trivial | exact rfl | exact fun _ _ => rfl | exact Or.inl rfl | refine And.intro ?_ ?_))) rfl
    refine And.intro ?_ ?_
    · simp [AllP, under, gB, wB, inR_iff, IntKind.bits]
    refine ⟨_, _, .inr ⟨h0, cap, hc1, hc2, rfl, rfl⟩, ?_⟩
    exact ent_tau [0, 1, 2, 3, 4, 5, 8] ⟨by (repeat' (first | exact trivial | exact rfl | exact fun _ _ => rfl | exact Or.inl rfl | refine And.intro ?_ ?_)), by (repeat' (first | exact trivial | exact rfl | exact congrArg (SV.int .i64) (Int.natCast_succ _).symm | refine And.intro ?_ ?_)), rfl⟩
end Go.Proofs.YtipbempkngfdbaaDoor
/-
  Contracts: bits of numbers.
-/
namespace Go.Proofs.YtipbempkngfdbaaDoor
open Go Go.Sy
set_option linter.unusedSimpArgs false
set_option maxRecDepth 100000
set_option maxHeartbeats 4000000
attribute [local irreducible] CallP CodeP Ent YieldP

def shr (x : Int) (n : Nat) : Int := x.fdiv (2 ^ n)
def w64 (x : Int) : Int := IntKind.u64.wrap x
/-- How many ones, as the code reckons. -/
def oc64 (x : Int) : Int :=
  let a := w64 (bitOp .and .u64 (shr x 1) 6148914691236517205 + bitOp .and .u64 x 6148914691236517205)
  let b := w64 (bitOp .and .u64 (shr a 2) 3689348814741910323 + bitOp .and .u64 a 3689348814741910323)
  let c := bitOp .and .u64 (w64 (shr b 4 + b)) 1085102592571150095
  let d := w64 (c + shr c 8)
  let e := w64 (d + shr d 16)
  let f := w64 (e + shr e 32)
  bitOp .and .i64 (IntKind.i64.wrap f) 127
theorem t108 (x : Int) : CallP Tryd.prog 108 [.int .u64 x] [] (Ret (.int .i64 (oc64 x)) []) := by
  refine callR (E := Ew) Ew_ok Tryd.func108 rfl ?_
  refine And.intro ?_ ?_
  · simp [AllP, under, gB, wB, inR_iff, IntKind.bits]
  refine ent_tau [] ⟨by (repeat' (first | exact trivial | exact rfl | exact fun _ _ => rfl | exact Or.inl rfl | refine And.intro ?_ ?_)), ⟨rfl, ?_, trivial⟩, rfl⟩
  rfl
theorem t66 (x : Int) : CallP Tryd.prog 66 [.int .u64 x] [] (Ret (.int .i64 (oc64 x)) []) := by
  refine callR (E := E) E_ok Tryd.func66 rfl ?_
  refine And.intro ?_ (And.intro (fun h => ?_) (fun h => ?_))
  · simp [AllP, under, gB, wB, inR_iff, IntKind.bits]
  · cases h
  · refine And.intro ?_ ?_
    · simp [AllP, under, gB, wB, inR_iff, IntKind.bits]
    refine (t108 x).use [] ?_ (by (repeat' (first | exact trivial | exact rfl | exact fun _ _ => rfl | exact Or.inl rfl | refine And.intro ?_ ?_))) rfl
    refine And.intro ?_ ?_
    · simp [AllP, under, gB, wB, inR_iff, IntKind.bits]
    exact ent_tau [] ⟨by (repeat' (first | exact trivial | exact rfl | exact fun _ _ => rfl | exact Or.inl rfl | refine And.intro ?_ ?_)), by (repeat' (first | exact trivial | exact rfl | exact congrArg (SV.int .i64) (Int.natCast_succ _).symm | refine And.intro ?_ ?_)), rfl⟩
/-- The table of math/bits. -/
def dbL : List Int := [0, 1, 56, 2, 57, 49, 28, 3, 61, 58, 42, 50, 38, 29, 17, 4, 62, 47, 59, 36, 45, 43, 51, 22, 53, 39, 33, 30, 24, 18, 12, 5, 63, 55, 48, 27, 60, 41, 37, 16, 46, 35, 44, 21, 52, 32, 23, 11, 54, 26, 40, 15, 34, 20, 31, 10, 25, 14, 19, 9, 13, 8, 7, 6]
def db : SObj := .glob 1 [.int .u8 0, .int .u8 1, .int .u8 56, .int .u8 2, .int .u8 57, .int .u8 49, .int .u8 28, .int .u8 3, .int .u8 61, .int .u8 58, .int .u8 42, .int .u8 50, .int .u8 38, .int .u8 29, .int .u8 17, .int .u8 4, .int .u8 62, .int .u8 47, .int .u8 59, .int .u8 36, .int .u8 45, .int .u8 43, .int .u8 51, .int .u8 22, .int .u8 53, .int .u8 39, .int .u8 33, .int .u8 30, .int .u8 24, .int .u8 18, .int .u8 12, .int .u8 5, .int .u8 63, .int .u8 55, .int .u8 48, .int .u8 27, .int .u8 60, .int .u8 41, .int .u8 37, .int .u8 16, .int .u8 46, .int .u8 35, .int .u8 44, .int .u8 21, .int .u8 52, .int .u8 32, .int .u8 23, .int .u8 11, .int .u8 54, .int .u8 26, .int .u8 40, .int .u8 15, .int .u8 34, .int .u8 20, .int .u8 31, .int .u8 10, .int .u8 25, .int .u8 14, .int .u8 19, .int .u8 9, .int .u8 13, .int .u8 8, .int .u8 7, .int .u8 6]
/-- How many zeros behind the last one, as the code reckons. -/
def tz64 (x : Int) : Int := IntKind.i64.wrap (dbL.getD (shr (w64 (bitOp .and .u64 x (w64 (0 - x)) * 285870213051353865)) 58).toNat 0)
theorem t116 (x : Int) (hx : x ≠ 0) (h0 : 0 ≤ shr (w64 (bitOp .and .u64 x (w64 (0 - x)) * 285870213051353865)) 58) (h1 : shr (w64 (bitOp .and .u64 x (w64 (0 - x)) * 285870213051353865)) 58 < 64) : CallP Tryd.prog 116 [.int .u64 x] [some db] (Ret (.int .i64 (tz64 x)) [some db]) := by
  refine callR (E := Ew) Ew_ok Tryd.func116 rfl ?_
  refine And.intro ?_ (And.intro (fun h => ?_) (fun h => ?_))
  · simp [AllP, under, gB, wB, inR_iff, IntKind.bits]
  · simp [hx] at h
  · refine And.intro ?_ ?_
    · have h2 : (shr (w64 (bitOp .and .u64 x (w64 (0 - x)) * 285870213051353865)) 58).toNat < 64 := by omega
      refine ⟨h2, h0, h1, ?_⟩
      simp [AllP, under, gB, wB, inR_iff, IntKind.bits]
    refine ent_tau [0] ⟨by (repeat' (first | exact trivial | exact rfl | exact fun _ _ => rfl | exact Or.inl rfl | refine And.intro ?_ ?_)), ⟨rfl, ?_, trivial⟩, rfl⟩
    rfl
end Go.Proofs.YtipbempkngfdbaaDoor
/-
  From a contract to the statement's world: a world whose blocks are only read.
-/
namespace Go.Sy
open Go

/-- A block that is only read. -/
def roO : SObj → Bool
  | .roc _ => true
  | .roa .. => true
  | .glob .. => true
  | _ => false
theorem roO_rw {o : SObj} (h : roO o = true) : o.rw = false := by cases o <;> first | rfl | cases h
theorem roO_bnd {o : SObj} (h : roO o = true) {η : Nam} {a : Nat × Nat} {F : Nat → Prop} {w : World} (hh : o.holds η a F w) {b : Nat} (hf : o.foot a F b) : b < w.heap.size := by
  have aux : ∀ {ob : Obj}, w.heap[a.1]? = some ob → a.1 = b → b < w.heap.size := fun e e' => by
    subst e'
    rcases Nat.lt_or_ge a.1 w.heap.size with h | h
    · exact h
    · rw [Array.getElem?_eq_none h] at e
      cases e
  cases o <;> first | cases h | skip
  all_goals simp only [SObj.holds, SObj.foot] at hh hf
  · obtain ⟨c, T, fz, vs, h1, _⟩ := hh
    exact aux h1 hf
  · obtain ⟨c, T, fz, h1, _⟩ := hh
    exact aux h1 hf
  · obtain ⟨_, c, T, fz, vs, h1, _⟩ := hh
    exact aux h1 hf

/-- A world whose named blocks are only read. -/
theorem satRo {h : SHeap} {W : World} (av : List (Nat × Nat)) (hl : av.length = h.length) (ho : ∀ (i : Nat) x, h[i]? = some x → ∃ o, x = some o ∧ roO o = true)
    (hh : ∀ (i : Nat) o a, h[i]? = some (some o) → av[i]? = some a → o.holds (fun j => av[j]?) a (fun _ => False) W) :
    Sat (fun j => av[j]?) (fun _ _ => False) h W (fun _ => False) W where
  size := Nat.le_refl _
  env := SameEnv.refl W
  keep := fun _ _ _ => rfl
  dom := fun i a e => by
    have hi : i < h.length := by
      rcases Nat.lt_or_ge i av.length with h1 | h1
      · omega
      · have e' : av[i]? = some a := e
        rw [List.getElem?_eq_none h1] at e'
        cases e'
    obtain ⟨o, h1, h2⟩ := ho i _ (List.getElem?_eq_getElem hi)
    exact ⟨o, by rw [List.getElem?_eq_getElem hi, h1]⟩
  named := fun i o e => by
    have hi : i < av.length := by
      rcases Nat.lt_or_ge i h.length with h1 | h1
      · omega
      · rw [List.getElem?_eq_none h1] at e
        cases e
    exact ⟨_, List.getElem?_eq_getElem hi⟩
  holds := fun i o a e e' => hh i o a e e'
  bnd := fun i o a b e e' hf => by
    obtain ⟨o', h1, h2⟩ := ho i _ e
    cases h1
    exact roO_bnd h2 (hh i o a e e') hf
  own := fun i o a b e _ hr _ => by
    obtain ⟨o', h1, h2⟩ := ho i _ e
    cases h1
    rw [roO_rw h2] at hr
    cases hr
  sep := fun i _ o _ _ _ _ _ e _ _ _ hr => by
    obtain ⟨o', h1, h2⟩ := ho i _ e
    cases h1
    rw [roO_rw h2] at hr
    cases hr

/-- What the call leaves of the world it began in: all of it. -/
theorem keptOf {η : Nam} {φ : Feet} {h : SHeap} {W W' : World} (hs : Sat η φ h W (fun _ => False) W') (may : MemPlace → Prop) : W.keptBut W' may := by
  refine ⟨hs.env.1, hs.env.2, fun i hi => ?_⟩
  rw [hs.keep i hi (fun hx => hx)]
  cases W.heap[i]? with
  | none => exact rfl
  | some o =>
    cases o <;> first | exact rfl | exact ⟨rfl, rfl, rfl, fun _ _ => rfl⟩ | exact Or.inr ⟨rfl, rfl⟩

/-- A contract, at a world that realises its heap. -/
theorem CallP.world {P : Program} {f : FuncId} {args : List SV} {h h' : SHeap} {v : SV} (hc : CallP P f args h (Ret v h')) {η : Nam} {φ : Feet} {W : World} (hs : Sat η φ h W (fun _ => False) W)
    {vs : List Value} (hd : denL η args = some vs) {u : Value} (hu : ∀ η', den η' v = some u) :
    Calls P f vs.toArray W fun e W' => e = .returned u ∧ W.heap.size ≤ W'.heap.size ∧ (∀ b, b < W.heap.size → W'.heap[b]? = W.heap[b]?) ∧ ∀ may, W.keptBut W' may := by
  refine (hc η φ W (fun _ => False) W vs hs hd).mono ?_
  rintro e W' ⟨ce, h'', η', φ', ⟨rfl, rfl⟩, _, _, hr, hs'⟩
  obtain ⟨u', h1, rfl⟩ := hr
  rw [hu η'] at h1
  cases h1
  exact ⟨rfl, hs'.size, fun b hb => hs'.keep b hb (fun hx => hx), fun may => keptOf hs' may⟩

/-- A table, held. -/
theorem glob_holds {P : Program} {W : World} {name : String} {k : IntKind} {zs : List Int} {g : Nat} (h : Lib.TabIs P W name k zs) (hg : P.globalNamed name = some g) {η : Nam} {F : Nat → Prop} :
    (SObj.glob g (zs.map fun z => .int k z)).holds η (g, 0) F W := by
  unfold Lib.TabIs World.var? at h
  rw [hg] at h
  simp only [Option.bind_some] at h
  have hd : denL η (zs.map fun z => SV.int k z) = some (zs.map fun z => Value.int k z) := by
    clear h
    induction zs with
    | nil => rfl
    | cons z zs ih => simp only [List.map_cons, denL, den, ih, Option.bind_some, Option.map_some]
  cases hh : W.heap[g]? with
  | none => rw [hh] at h; cases h
  | some o =>
    rw [hh] at h
    cases o <;> first | cases h | skip
    exact ⟨rfl, _, _, _, _, hh, hd, fun j v e => by simpa using e⟩
end Go.Sy
/-
  From the statement's reading of an argument to rows that are only read.
-/
namespace Go.Sy
open Go Go.ChangeShapes Go.WideShapes Go.ChangeAt Go.RowKit

/-- Whatever was read at the beginning is read again, where no old block has changed. -/
theorem trodAll_kept {H : Type} {enc : TypeId × Value → H} {P : Program} (hl : laidOutB P = true) {W W' : World} (hs : W.heap.size ≤ W'.heap.size) (hk : ∀ b, b < W.heap.size → W'.heap[b]? = W.heap[b]?) :
    ∀ {ts : List TypeId} {vs : List Value} {ds : List (DataW H)} {ps : List MemPlace}, (ts.all fun t => P.readableRec t && decide (t < P.types.size)) = true →
    DataW.TrodAll enc P W 0 (fun _ => true) true ts vs ds ps → (∀ x ∈ ps, x.block < W.heap.size) → DataW.TrodAll enc P W' 0 (fun b => decide (b < W.heap.size)) true ts vs ds ps
  | [], [], [], ps, _, h, _ => h
  | t :: ts, v :: vs, d :: ds, ps, ht, h, hlt => by
    obtain ⟨p, q, h1, h2, rfl⟩ := h
    simp only [List.all_cons, Bool.and_eq_true, decide_eq_true_eq] at ht
    refine ⟨p, q, ?_, trodAll_kept hl hs hk ht.2 h2 (fun x hx => hlt x (List.mem_append_right _ hx)), rfl⟩
    refine WideElems.Trod_stays hl ht.1.1 ht.1.2 h1 (fun x hx => ?_) (fun x hx => by simpa using hlt x (List.mem_append_left _ hx))
    have hb := hlt x (List.mem_append_left _ hx)
    cases x with
    | cell b o => exact World.cell?_of_block (w := W) (hk b hb)
    | map b => exact hk b hb
  | [], _ :: _, _, _, _, h, _ => by simp [DataW.TrodAll] at h
  | [], [], _ :: _, _, _, h, _ => by simp [DataW.TrodAll] at h
  | _ :: _, [], _, _, _, h, _ => by simp [DataW.TrodAll] at h
  | _ :: _, _ :: _, [], _, _, h, _ => by simp [DataW.TrodAll] at h

/-- Cells that are numbers of the machine. -/
def intCells (n : Nat) (cs : List Value) : Prop := ∃ zs : List Int, zs.length = n ∧ (∀ z ∈ zs, InR .i64 z) ∧ cs = zs.map (Value.int .i64)
theorem intCells.append {n m : Nat} {a b : List Value} (ha : intCells n a) (hb : intCells m b) : intCells (n + m) (a ++ b) := by
  obtain ⟨x, h1, h2, rfl⟩ := ha
  obtain ⟨y, h3, h4, rfl⟩ := hb
  refine ⟨x ++ y, by simp [h1, h3], fun z hz => ?_, by simp⟩
  rcases List.mem_append.1 hz with h | h
  · exact h2 z h
  · exact h4 z h
theorem intCells.cut {n m : Nat} {cs : List Value} (hl : cs.length = n + m) (ha : intCells n ((cs.drop 0).take n)) (hb : intCells m ((cs.drop n).take m)) : intCells (n + m) cs := by
  have := ha.append hb
  rwa [List.drop_zero, List.take_of_length_le (l := cs.drop n) (by simp; omega), List.take_append_drop] at this

section
variable {H : Type} {enc : TypeId × Value → H} {P : Program} {w : World} {base : Nat} {sp : Nat → Bool} {held : Bool}
/-- A type whose values read as numbers of the machine. -/
def IntT (enc : TypeId × Value → H) (P : Program) (w : World) (base : Nat) (sp : Nat → Bool) (held : Bool) (t : TypeId) (n : Nat) : Prop :=
  P.cellsOf t = n ∧ ∀ fuel cs x, DataW.trod enc P w base sp held fuel t cs = some x → intCells n cs
theorem IntT.int {t : TypeId} (ht : P.underlying t = some (.int .i64)) (hc : P.cellsOf t = 1) : IntT enc P w base sp held t 1 := by
  refine ⟨hc, fun fuel cs x h => ?_⟩
  obtain ⟨z, rfl, _, hw⟩ := DataW.trod_int ht h
  refine ⟨[z], rfl, fun y hy => ?_, rfl⟩
  simp only [List.mem_singleton] at hy
  subst hy
  simpa [Lit.wf, InR, IntKind.min, IntKind.max, IntKind.signed, IntKind.bits] using hw
theorem IntT.two {t : TypeId} {f0 f1 : Field} {n m : Nat} (ht : P.underlying t = some (.struct #[f0, f1])) (h0 : IntT enc P w base sp held f0.type n) (h1 : IntT enc P w base sp held f1.type m) (o0 : f0.offset = 0) (o1 : f1.offset = n) (hc : P.cellsOf t = n + m) : IntT enc P w base sp held t (n + m) := by
  refine ⟨hc, fun fuel cs x h => ?_⟩
  obtain ⟨xs, k, rfl, rfl, hl, hx, hf⟩ := DataW.trod_struct ht h
  have a0 := hf 0 f0 rfl
  have a1 := hf 1 f1 rfl
  rw [List.getElem?_eq_getElem (by simp [hx])] at a0 a1
  rw [h0.1, o0] at a0
  rw [h1.1, o1] at a1
  exact intCells.cut (by rw [hl, hc]) (h0.2 _ _ _ a0) (h1.2 _ _ _ a1)
theorem IntT.three {t : TypeId} {f0 f1 f2 : Field} {n m k : Nat} (ht : P.underlying t = some (.struct #[f0, f1, f2])) (h0 : IntT enc P w base sp held f0.type n) (h1 : IntT enc P w base sp held f1.type m) (h2 : IntT enc P w base sp held f2.type k) (o0 : f0.offset = 0) (o1 : f1.offset = n) (o2 : f2.offset = n + m)
    (hc : P.cellsOf t = n + m + k) : IntT enc P w base sp held t (n + m + k) := by
  refine ⟨hc, fun fuel cs x h => ?_⟩
  obtain ⟨xs, q, rfl, rfl, hl, hx, hf⟩ := DataW.trod_struct ht h
  have a0 := hf 0 f0 rfl
  have a1 := hf 1 f1 rfl
  have a2 := hf 2 f2 rfl
  rw [List.getElem?_eq_getElem (by simp [hx])] at a0 a1 a2
  rw [h0.1, o0] at a0
  rw [h1.1, o1] at a1
  rw [h2.1, o2] at a2
  have b0 := h0.2 _ _ _ a0
  have b1 := h1.2 _ _ _ a1
  have b2 := h2.2 _ _ _ a2
  have c : intCells (n + m) (cs.take (n + m)) := by
    refine intCells.cut (by simp; omega) ?_ ?_
    · rwa [List.drop_zero, List.take_take, Nat.min_eq_left (by omega)] 
    · rwa [List.drop_take, List.take_take, show min m (n + m - n) = m by omega]
  have d := c.append b2
  rwa [List.take_of_length_le (l := cs.drop (n + m)) (by simp; omega), List.take_append_drop] at d

/-- The number in a cell, if it is one of the machine. -/
def cellI (W : World) (a : Nat × Nat) (k : Nat) : Int :=
  match W.cell? ⟨a.1, a.2 + k, none⟩ with
  | some (.int .i64 n) => if -9223372036854775808 ≤ n ∧ n ≤ 9223372036854775807 then n else 0
  | _ => 0
theorem cellI_ok (W : World) (a : Nat × Nat) (k : Nat) : InR .i64 (cellI W a k) := by
  unfold cellI
  split
  · split
    · rename_i h
      simpa [InR, IntKind.signed, IntKind.bits] using h
    · simp [InR]
  · simp [InR]
theorem mapM_get {α β : Type} {f : α → Option β} : ∀ {l : List α} {r : List β}, l.mapM f = some r → r.length = l.length ∧ ∀ (i : Nat) (a : α), l[i]? = some a → f a = r[i]? := by
  intro l
  induction l with
  | nil =>
    intro r h
    simp at h
    subst h
    exact ⟨rfl, fun i a h => by simp at h⟩
  | cons x l ih =>
    intro r h
    simp only [List.mapM_cons, Option.bind_eq_bind, Option.bind_eq_some_iff, Option.pure_def, Option.some.injEq] at h
    obtain ⟨y, h1, ys, h2, rfl⟩ := h
    obtain ⟨h3, h4⟩ := ih h2
    refine ⟨by simp [h3], fun i a ha => ?_⟩
    cases i with
    | zero => simp at ha; subst ha; simpa using h1
    | succ i => simpa using h4 i a (by simpa using ha)

/-- A slice of such: nil, or rows of cells that are numbers. -/
theorem sliceOpen {t e : TypeId} {sz : Nat} {v : Value} {d : DataW H} {ps : List MemPlace} {r : Reach} {b0 : Nat} (ht : P.underlying t = some (.slice e)) (he : IntT enc P w base sp held e sz)
    (hval : Cell.okWide P w r b0 t v) {fuel : Nat} (h : DataW.trod enc P w base sp held fuel t [v] = some (d, ps)) :
    v = .slice none 0 0 ∨ ∃ (a : Nat × Nat) (n c : Nat), v = .slice (some ⟨a.1, a.2, none⟩) n c ∧ n ≤ c ∧ (c : Int) ≤ 9223372036854775807 ∧ ∃ cs T fz, w.heap[a.1]? = some (.cells cs T fz) ∧
      ∀ k, k < n → ∀ j, j < sz → cs[a.2 + (k * sz + j)]? = some (.int .i64 (cellI w a (k * sz + j))) := by
  rcases DataW.trod_slice ht h with ⟨h1, _⟩ | ⟨a, len, cap, elems, rest, n, rfl, h1, _, _, hlc, _, hel, hat, _, _⟩
  · left
    simpa using h1
  · right
    simp only [List.cons.injEq, and_true] at h1
    subst h1
    have hv : len ≤ cap ∧ (cap : Int) ≤ IntKind.i64.max ∧ w.has P r b0 a e cap := by
      unfold Cell.okWide at hval
      rw [ht] at hval
      unfold Cell.ok at hval
      rw [ht] at hval
      exact hval
    obtain ⟨_, hc2, _, hsp, row, cells, hsh, _⟩ := hv
    unfold World.shape? at hsh
    cases hh : w.heap[a.block]? with
    | none => rw [hh] at hsh; cases hsh
    | some o =>
      rw [hh] at hsh
      cases o with
      | map _ _ | loop _ | chan _ | pending _ _ | view _ _ | number _ | stringIter _ _ | mapIter _ _ _ _ | deferred _ | coro _ | finalizers _ => cases hsh
      | cells cs T fz =>
        obtain ⟨ab, ao, asp⟩ := a
        simp only at hsp hh
        subst hsp
        refine ⟨(ab, ao), len, cap, rfl, hlc, by simpa [IntKind.max, IntKind.signed, IntKind.bits] using hc2, cs, T, fz, hh, fun k hk j hj => ?_⟩
        have h2 := hat k hk
        rw [List.getElem?_eq_getElem (by omega)] at h2
        obtain ⟨ys, h3, h4⟩ := Option.bind_eq_some_iff.1 h2
        rw [he.1] at h3
        obtain ⟨zs, hz, hr, rfl⟩ := he.2 _ _ _ h4
        unfold World.cells? at h3
        split at h3
        · obtain ⟨_, h6⟩ := mapM_get h3
          have h7 := h6 j j (by simp [hj])
          rw [List.getElem?_map, List.getElem?_eq_getElem (by omega)] at h7
          have hin := hr (zs[j]'(by omega)) (List.getElem_mem _)
          have e1 : w.cell? ⟨ab, ao + (k * sz + j), none⟩ = some (.int .i64 (zs[j]'(by omega))) := by
            simpa [addr_add, he.1, Nat.add_assoc] using h7
          have e2 : cellI w (ab, ao) (k * sz + j) = zs[j]'(by omega) := by
            unfold cellI
            rw [e1]
            simp only
            rw [if_pos (by simpa [InR, IntKind.signed, IntKind.bits] using hin)]
          rw [e2]
          simpa [World.cell?, hh] using e1
        · cases h3
end
end Go.Sy
/-
  Contracts: looks without those of a set.
-/
namespace Go.Proofs.YtipbempkngfdbaaDoor
open Go Go.Sy
set_option linter.unusedSimpArgs false
set_option maxRecDepth 100000
set_option maxHeartbeats 4000000
attribute [local irreducible] CallP CodeP Ent YieldP

/-- Look n is of a set. -/
def inSet (so : Int) (n : Nat) : Bool := decide (bitOp .and .u64 (so.fdiv (2 ^ n)) 1 = 1)
theorem t102 (so : Int) (n : Nat) (hn : n < 64) (x : Int) (hx : x + 1 = n) (a b c d : Int) : CallP Tryd.prog 102 [.agg [.int .i64 a, .int .i64 b, .int .i64 c, .int .i64 d], .ptr 0 0, .ptr 1 0] [some (.cells [.int .i64 x]), some (.roc [.int .u64 so])]
    (Ret (.bool (inSet so n)) [some (.cells [.int .i64 n]), some (.roc [.int .u64 so])]) := by
  have ex : (x + 1).toNat = n := by omega
  refine callR (E := E) E_ok Tryd.func102 rfl ?_
  refine And.intro ?_ ?_
  · simp [AllP, under, gB, wB, inR_iff, IntKind.bits]
    omega
  refine ent_tau [0, 1] ⟨?_, ?_, rfl⟩
  · (repeat' (first | exact trivial | exact rfl | exact fun _ _ => rfl | exact Or.inl rfl | refine And.intro ?_ ?_))
    exact congrArg (fun v => [SV.int .i64 v]) hx
  · (repeat' (first | exact trivial | exact rfl | exact congrArg (SV.int .i64) (Int.natCast_succ _).symm | refine And.intro ?_ ?_))
    refine congrArg SV.bool ?_
    simp only [inSet]
    rw [ex]
/-- The first look of a set, from i on, among n. -/
theorem t120 (t : TD) (hL : t.nL ≤ 6) (so : Int) (c : Nat) : CallP Tryd.prog 120 [.slice 0 4 0 t.nL c, .fn (.func 102) [] [.ptr 1 0, .ptr 2 0]] [some (.roa 4 t.nL (row4 t.lp t.lm t.llo t.lhi)), some (.cells [.int .i64 (-1)]), some (.roc [.int .u64 so])]
    (fun ce h' => (∃ j, j < t.nL ∧ inSet so j = true ∧ (∀ i, i < j → inSet so i = false) ∧ ce = .ret (.int .i64 (j : Nat)) ∧ h' = [some (.roa 4 t.nL (row4 t.lp t.lm t.llo t.lhi)), some (.cells [.int .i64 (j : Nat)]), some (.roc [.int .u64 so])]) ∨
      ((∀ i, i < t.nL → inSet so i = false) ∧ ce = .ret (.int .i64 (-1)) ∧ h' = [some (.roa 4 t.nL (row4 t.lp t.lm t.llo t.lhi)), some (.cells [.int .i64 ((t.nL : Int) - 1)]), some (.roc [.int .u64 so])])) := by
  refine callK (E := E) E_ok Tryd.func120 rfl ?_
  refine And.intro ?_ ?_
  · simp [AllP, under, gB, wB, inR_iff, IntKind.bits]
  refine loopP E_ok [0, 1, 7] (fun k : Nat => [(8, .int .i64 k)]) (fun k H => H.set 1 (some (.cells [.int .i64 ((k : Int) - 1)]))) (fun k => k ≤ t.nL ∧ ∀ i, i < k → inSet so i = false) (fun k => t.nL - k) 0 ⟨Nat.zero_le _, fun i hi => by omega⟩ ?_ ?_
  · exact ent_tau [0, 1, 2] ⟨by (repeat' (first | exact trivial | exact rfl | exact fun _ _ => rfl | exact Or.inl rfl | refine And.intro ?_ ?_)), by (repeat' (first | exact trivial | exact rfl | exact congrArg (SV.int .i64) (Int.natCast_succ _).symm | refine And.intro ?_ ?_)), rfl⟩
  · rintro k ⟨hk, hall⟩
    refine And.intro ?_ (And.intro (fun hn => ?_) (fun hn => ?_))
    · simp [AllP, under, gB, wB, inR_iff, IntKind.bits]
    · have hn' : k < t.nL := by simpa using hn
      have ek : (0 + (k : Int).toNat) = k := by omega
      refine And.intro ?_ ?_
      · simp [AllP, under, gB, wB, inR_iff, IntKind.bits]
        omega
      rw [ek]
      refine (t102 so k (by omega) ((k : Int) - 1) (by omega) (t.lp k) (t.lm k) (t.llo k) (t.lhi k)).use [1, 2] ?_ (by (repeat' (first | exact trivial | exact rfl | exact fun _ _ => rfl | exact Or.inl rfl | refine And.intro ?_ ?_))) rfl
      refine And.intro ?_ (And.intro (fun hd => ?_) (fun hd => ?_))
      · simp [AllP, under, gB, wB, inR_iff, IntKind.bits]
      · refine And.intro ?_ ?_
        · simp [AllP, under, gB, wB, inR_iff, IntKind.bits]
        refine And.intro ?_ ⟨_, _, .inl ⟨k, hn', hd, hall, rfl, rfl⟩, ?_⟩
        · simp [AllP, under, gB, wB, inR_iff, IntKind.bits]
        exact ent_tau [0, 1, 2] ⟨by (repeat' (first | exact trivial | exact rfl | exact fun _ _ => rfl | exact Or.inl rfl | refine And.intro ?_ ?_)), by (repeat' (first | exact trivial | exact rfl | exact congrArg (SV.int .i64) (Int.natCast_succ _).symm | refine And.intro ?_ ?_)), rfl⟩
      · refine And.intro ?_ ⟨k + 1, ⟨hn', fun i hi => ?_⟩, by omega, ?_⟩
        · simp [AllP, under, gB, wB, inR_iff, IntKind.bits]
          omega
        · rcases Nat.lt_or_ge i k with h | h
          · exact hall i h
          · have : i = k := by omega
            subst this
            exact hd
        · refine ent_tau [0, 1, 2] ⟨?_, by (repeat' (first | exact trivial | exact rfl | exact congrArg (SV.int .i64) (Int.natCast_succ _).symm | refine And.intro ?_ ?_)), rfl⟩
          (repeat' (first | exact trivial | exact rfl | exact fun _ _ => rfl | exact Or.inl rfl | refine And.intro ?_ ?_))
          exact congrArg (fun v => [SV.int .i64 v]) (by push_cast; omega)
    · have hn' : k = t.nL := by
        have : ¬ (k < t.nL) := by simpa using hn
        omega
      subst hn'
      refine And.intro ?_ ?_
      · simp [AllP, under, gB, wB, inR_iff, IntKind.bits]
      refine And.intro trivial ?_
      refine ⟨_, _, .inr ⟨hall, rfl, rfl⟩, ?_⟩
      exact ent_tau [0, 1, 2] ⟨by (repeat' (first | exact trivial | exact rfl | exact fun _ _ => rfl | exact Or.inl rfl | refine And.intro ?_ ?_)), by (repeat' (first | exact trivial | exact rfl | exact congrArg (SV.int .i64) (Int.natCast_succ _).symm | refine And.intro ?_ ?_)), rfl⟩
/-- The looks that are not of a set, of the first k. -/
def keptL (so : Int) : Nat → List Nat
  | 0 => []
  | k + 1 => if inSet so k = true then keptL so k else keptL so k ++ [k]
theorem keptL_len (so : Int) : ∀ k, (keptL so k).length ≤ k
  | 0 => Nat.le_refl _
  | k + 1 => by
    have := keptL_len so k
    simp only [keptL]
    split
    · omega
    · simp; omega
theorem keptL_lt (so : Int) : ∀ k, ∀ i ∈ keptL so k, i < k
  | 0, i, h => by simp [keptL] at h
  | k + 1, i, h => by
    simp only [keptL] at h
    split at h
    · have := keptL_lt so k i h; omega
    · rcases List.mem_append.1 h with h | h
      · have := keptL_lt so k i h; omega
      · simp at h; omega
theorem keptL_all {so : Int} : ∀ {k : Nat}, (∀ i, i < k → inSet so i = false) → keptL so k = List.range k
  | 0, _ => rfl
  | k + 1, h => by
    rw [keptL, if_neg (by simp [h k (by omega)]), keptL_all fun i hi => h i (by omega), List.range_succ]
def keptRow (t : TD) (so : Int) (m : Nat) : List SV := row4 t.lp t.lm t.llo t.lhi ((keptL so t.nL).getD m 0)
theorem row_put (a b c d : Nat → Int) (σ : Nat → Nat) (i j m : Nat) : selL (decide (m = i)) (splice (row4 a b c d (σ i)) 0 [.int .i64 (a (σ j)), .int .i64 (b (σ j)), .int .i64 (c (σ j)), .int .i64 (d (σ j))]) (row4 a b c d (σ m)) = row4 a b c d (if m = i then σ j else σ m) := by
  by_cases h : m = i
  · subst h; simp [selL, selV, splice, row4]
  · simp [selL, selV, splice, row4, h]
theorem t101 (t : TD) (hL : t.nL ≤ 6) (so : Int) : CallP Tryd.prog 101 [.slice 0 4 0 t.nL t.nL, .fn (.func 102) [] [.ptr 1 0, .ptr 2 0]] [some (.arr 4 t.nL t.nL (row4 t.lp t.lm t.llo t.lhi)), some (.cells [.int .i64 (-1)]), some (.roc [.int .u64 so])]
    (Ret (.slice 0 4 0 (keptL so t.nL).length t.nL) [some (.arr 4 (keptL so t.nL).length t.nL (keptRow t so)), some (.cells [.int .i64 ((t.nL : Int) - 1)]), some (.roc [.int .u64 so])]) := by
  refine callR (E := E) E_ok Tryd.func101 rfl ?_
  refine And.intro ?_ ?_
  · simp [AllP, under, gB, wB, inR_iff, IntKind.bits]
  refine CallP.frame (t120 t hL so t.nL) [0, 1, 2] (by (repeat' (first | exact trivial | exact rfl | exact fun _ _ => rfl | exact Or.inl rfl | refine And.intro ?_ ?_))) (apartB_ok rfl) rfl ?_
  rintro ce h' (⟨j, hj, hsj, hall, rfl, rfl⟩ | ⟨hall, rfl, rfl⟩)
  · refine ⟨ownB_ok rfl, ?_⟩
    refine And.intro ?_ (And.intro (fun hm => ?_) (fun hm => ?_))
    · simp [AllP, under, gB, wB, inR_iff, IntKind.bits]
    · have : (j : Int) = -1 := by simp at hm
      omega
    · have hk1 : keptL so (j + 1) = List.range j := by rw [keptL, if_pos hsj, keptL_all hall]
      refine And.intro ?_ ?_
      · simp [AllP, under, gB, wB, inR_iff, IntKind.bits]
        omega
      refine loopP E_ok [0, 1] (fun g : Nat × (Nat → Nat) => [(5, .int .i64 ((keptL so g.1).length : Nat)), (6, .int .i64 (g.1 : Nat))]) (fun g H => (H.set 0 (some (.arr 4 t.nL t.nL fun m => row4 t.lp t.lm t.llo t.lhi (g.2 m)))).set 1 (some (.cells [.int .i64 ((g.1 : Int) - 1)])))
        (fun g => g.1 ≤ t.nL ∧ (keptL so g.1).length < g.1 ∧ (∀ m, m < (keptL so g.1).length → g.2 m = (keptL so g.1).getD m 0) ∧ ∀ m, g.1 ≤ m → g.2 m = m) (fun g => t.nL - g.1) (j + 1, id) ⟨hj, by rw [hk1]; simp, fun m hm => ?_, fun m _ => rfl⟩ ?_ ?_
      · have hm' : m < j := by simpa [hk1] using hm
        show m = (keptL so (j + 1)).getD m 0
        rw [hk1, List.getD_eq_getElem?_getD, List.getElem?_range hm']
        rfl
      · refine ent_tau [0, 1, 2] ⟨?_, ?_, rfl⟩
        · (repeat' (first | exact trivial | exact rfl | exact fun _ _ => rfl | exact Or.inl rfl | refine And.intro ?_ ?_))
          exact congrArg (fun v => [SV.int .i64 v]) (by show (j : Int) = ((j + 1 : Nat) : Int) - 1; omega)
        · (repeat' (first | exact trivial | exact rfl | exact congrArg (SV.int .i64) (Int.natCast_succ _).symm | refine And.intro ?_ ?_))
          exact congrArg (SV.int .i64) (by rw [hk1]; simp)
      · rintro ⟨q, σ⟩ ⟨h1, h2, h3, h4⟩
        simp only at h1 h2 h3 h4
        refine And.intro ?_ (And.intro (fun hn => ?_) (fun hn => ?_))
        · simp [AllP, under, gB, wB, inR_iff, IntKind.bits]
        · have hn' : q < t.nL := by simpa using hn
          have eq : (0 + (q : Int).toNat) = q := by omega
          refine And.intro ?_ ?_
          · simp [AllP, under, gB, wB, inR_iff, IntKind.bits]
            omega
          rw [eq]
          refine (t102 so q (by omega) ((q : Int) - 1) (by omega) (t.lp (σ q)) (t.lm (σ q)) (t.llo (σ q)) (t.lhi (σ q))).use [1, 2] ?_ (by (repeat' (first | exact trivial | exact rfl | exact fun _ _ => rfl | exact Or.inl rfl | refine And.intro ?_ ?_))) rfl
          refine And.intro ?_ (And.intro (fun hd => ?_) (fun hd => ?_))
          · simp [AllP, under, gB, wB, inR_iff, IntKind.bits]
          · have hd' : inSet so q = false := by simpa using hd
            have ek : keptL so (q + 1) = keptL so q ++ [q] := by rw [keptL, if_neg (by simp [hd'])]
            have el : (keptL so (q + 1)).length = (keptL so q).length + 1 := by rw [ek]; simp
            have ei : (0 + ((keptL so q).length : Int).toNat) = (keptL so q).length := by omega
            refine And.intro ?_ ⟨(q + 1, fun m => if m = (keptL so q).length then σ q else σ m), ⟨hn', by show (keptL so (q + 1)).length < q + 1; omega, fun m hm => ?_, fun m hm => ?_⟩, by show t.nL - (q + 1) < t.nL - q; omega, ?_⟩
            · simp [AllP, under, gB, wB, inR_iff, IntKind.bits]
              omega
            · have hm' : m < (keptL so q).length + 1 := by rw [← el]; exact hm
              show (if m = (keptL so q).length then σ q else σ m) = (keptL so (q + 1)).getD m 0
              rw [ek, List.getD_eq_getElem?_getD, List.getElem?_append]
              split
              · rename_i h5
                subst h5
                rw [if_neg (by omega), Nat.sub_self]
                exact h4 q (Nat.le_refl _)
              · rw [if_pos (by omega), ← List.getD_eq_getElem?_getD]
                exact h3 m (by omega)
            · have hm' : q + 1 ≤ m := hm
              show (if m = (keptL so q).length then σ q else σ m) = m
              rw [if_neg (by omega)]
              exact h4 m (by omega)
            · refine ent_tau [0, 1, 2] ⟨?_, ?_, rfl⟩
              · (repeat' (first | exact trivial | exact rfl | exact fun _ _ => rfl | exact Or.inl rfl | refine And.intro ?_ ?_))
                · intro m hm
                  show selL (decide (m = 0 + ((keptL so q).length : Int).toNat)) (splice (row4 t.lp t.lm t.llo t.lhi (σ (0 + ((keptL so q).length : Int).toNat))) 0 [.int .i64 (t.lp (σ q)), .int .i64 (t.lm (σ q)), .int .i64 (t.llo (σ q)), .int .i64 (t.lhi (σ q))]) (row4 t.lp t.lm t.llo t.lhi (σ m)) = row4 t.lp t.lm t.llo t.lhi (if m = (keptL so q).length then σ q else σ m)
                  rw [ei]
                  exact row_put ..
                · exact congrArg (fun v => [SV.int .i64 v]) (by show (q : Int) = ((q + 1 : Nat) : Int) - 1; omega)
              · (repeat' (first | exact trivial | exact rfl | exact congrArg (SV.int .i64) (Int.natCast_succ _).symm | refine And.intro ?_ ?_))
                exact congrArg (SV.int .i64) (by show ((keptL so q).length : Int) + 1 = ((keptL so (q + 1)).length : Int); omega)
          · have hd' : inSet so q = true := by simpa using hd
            have ek : keptL so (q + 1) = keptL so q := by rw [keptL, if_pos hd']
            refine And.intro ?_ ⟨(q + 1, σ), ⟨hn', by show (keptL so (q + 1)).length < q + 1; rw [ek]; omega, by show ∀ m, m < (keptL so (q + 1)).length → σ m = (keptL so (q + 1)).getD m 0; rw [ek]; exact h3, fun m hm => h4 m (by have hm' : q + 1 ≤ m := hm; omega)⟩, by show t.nL - (q + 1) < t.nL - q; omega, ?_⟩
            · simp [AllP, under, gB, wB, inR_iff, IntKind.bits]
              omega
            · refine ent_tau [0, 1, 2] ⟨?_, ?_, rfl⟩
              · (repeat' (first | exact trivial | exact rfl | exact fun _ _ => rfl | exact Or.inl rfl | refine And.intro ?_ ?_))
                exact congrArg (fun v => [SV.int .i64 v]) (by show (q : Int) = ((q + 1 : Nat) : Int) - 1; omega)
              · (repeat' (first | exact trivial | exact rfl | exact congrArg (SV.int .i64) (Int.natCast_succ _).symm | refine And.intro ?_ ?_))
                exact congrArg (SV.int .i64) (by show ((keptL so q).length : Int) = ((keptL so (q + 1)).length : Int); rw [ek])
        · have hn' : q = t.nL := by
            have : ¬ (q < t.nL) := by simpa using hn
            omega
          subst hn'
          refine And.intro ?_ ?_
          · simp [AllP, under, gB, wB, inR_iff, IntKind.bits]
          refine And.intro ?_ ?_
          · refine ⟨?_, ?_, ?_, ?_, ?_, ?_, trivial⟩
            · show 0 ≤ ((keptL so t.nL).length : Int)
              omega
            · show ((keptL so t.nL).length : Int) ≤ (t.nL : Int)
              omega
            · show 0 + ((keptL so t.nL).length : Int).toNat + (t.nL - ((keptL so t.nL).length : Int).toNat) ≤ t.nL
              omega
            · show 0 ≤ ((keptL so t.nL).length : Int)
              omega
            · show ((keptL so t.nL).length : Int) ≤ (t.nL : Int)
              omega
            · show ((keptL so t.nL).length : Int) < (t.nL : Int)
              omega
          refine Ent.trans (entCut (i := 0) (m' := (keptL so t.nL).length) (get' := keptRow t so) rfl (keptL_len so t.nL) fun m hm => ?_) (ent_tau [0, 1, 2] ⟨by (repeat' (first | exact trivial | exact rfl | exact fun _ _ => rfl | exact Or.inl rfl | refine And.intro ?_ ?_)), ?_, rfl⟩)
          · refine Eq.trans (b := row4 t.lp t.lm t.llo t.lhi (σ m)) ?_ ?_
            · show selL (decide (0 + ((keptL so t.nL).length : Int).toNat ≤ m ∧ m < 0 + ((keptL so t.nL).length : Int).toNat + (t.nL - ((keptL so t.nL).length : Int).toNat))) _ (row4 t.lp t.lm t.llo t.lhi (σ m)) = _
              rw [decide_eq_false (by omega), selL_false]
            · unfold keptRow
              rw [h3 m hm]
          · (repeat' (first | exact trivial | exact rfl | exact congrArg (SV.int .i64) (Int.natCast_succ _).symm | refine And.intro ?_ ?_))
  · refine ⟨ownB_ok rfl, ?_⟩
    have hk := keptL_all hall
    refine And.intro ?_ (And.intro (fun hm => ?_) (fun hm => ?_))
    · simp [AllP, under, gB, wB, inR_iff, IntKind.bits]
    · refine And.intro ?_ ?_
      · simp [AllP, under, gB, wB, inR_iff, IntKind.bits]
      refine Ent.trans (entCut (i := 0) (m' := (keptL so t.nL).length) (get' := keptRow t so) rfl (keptL_len so t.nL) fun m hm => ?_) (ent_tau [0, 1, 2] ⟨by (repeat' (first | exact trivial | exact rfl | exact fun _ _ => rfl | exact Or.inl rfl | refine And.intro ?_ ?_)), ?_, rfl⟩)
      · unfold keptRow
        have hm' : m < t.nL := by have := keptL_len so t.nL; omega
        rw [hk, List.getD_eq_getElem?_getD, List.getElem?_range hm']
        rfl
      · (repeat' (first | exact trivial | exact rfl | exact congrArg (SV.int .i64) (Int.natCast_succ _).symm | refine And.intro ?_ ?_))
        show SV.slice 0 4 0 t.nL t.nL = SV.slice 0 4 0 (keptL so t.nL).length t.nL
        rw [hk, List.length_range]
    · simp at hm
theorem t62 (t : TD) (hL : t.nL ≤ 6) (so : Int) (b : Bool) (c : Nat) : CallP Tryd.prog 62 [.osl b 0 4 t.nL c, .int .u64 so] [some (.roa 4 t.nL (row4 t.lp t.lm t.llo t.lhi))]
    (Ret (.osl true 1 4 (keptL so t.nL).length t.nL) [some (.roa 4 t.nL (row4 t.lp t.lm t.llo t.lhi)), some (.arr 4 (keptL so t.nL).length t.nL (keptRow t so))]) := by
  refine callR (E := E) E_ok Tryd.func62 rfl ?_
  refine And.intro ?_ ?_
  · refine ⟨?_, ?_, fun _ _ => rfl, ?_, Int.le_refl _, ?_, ?_, trivial⟩
    · show 0 + (t.nL : Int).toNat ≤ (t.nL : Int).toNat
      omega
    · omega
    · show (0 : Int) ≤ t.nL
      omega
    · show (32 : Int) * t.nL ≤ 281474976710656
      omega
    · show (t.nL : Int) ≤ 9223372036854775807
      omega
  refine (t101 t hL so).use [2, 3, 1] ?_ ?_ rfl
  · refine And.intro ?_ ?_
    · simp [AllP, under, gB, wB, inR_iff, IntKind.bits]
    refine Ent.trans (entV (den_slice · _ _ _ _)) (ent_tau [0, 2] ⟨by (repeat' (first | exact trivial | exact rfl | exact fun _ _ => rfl | exact Or.inl rfl | refine And.intro ?_ ?_)), by (repeat' (first | exact trivial | exact rfl | exact congrArg (SV.int .i64) (Int.natCast_succ _).symm | refine And.intro ?_ ?_)), rfl⟩)
  · (repeat' (first | exact trivial | exact rfl | exact fun _ _ => rfl | exact Or.inl rfl | refine And.intro ?_ ?_))
    intro k hk
    show selL (decide (0 ≤ k ∧ k < 0 + Nat.min t.nL (t.nL : Int).toNat)) (row4 t.lp t.lm t.llo t.lhi (0 + (k - 0))) _ = row4 t.lp t.lm t.llo t.lhi k
    have : Nat.min t.nL (t.nL : Int).toNat = t.nL := by rw [Int.toNat_natCast]; exact Nat.min_self _
    rw [this, decide_eq_true (by omega), selL_true]
    simp
end Go.Proofs.YtipbempkngfdbaaDoor
