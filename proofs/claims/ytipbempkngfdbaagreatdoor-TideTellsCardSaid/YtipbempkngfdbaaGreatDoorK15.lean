/-
  Parts: B2, B3, B4, B5, B6.
-/
import Derived.Test.YtipbempkngfdbaaGreatDoorK14
import Derived.Test.YtipbempkngfdbaaGreatDoorK10
import Derived.Test.YtipbempkngfdbaaGreatDoorK1
set_option linter.unusedVariables false
/-
  The iterator of all truths, with the loop that gathers them.
-/
namespace Go.Proofs.YtipbempkngfdbaaGreatDoor
open Go Go.Sy
set_option linter.unusedSimpArgs false
set_option maxRecDepth 100000
set_option maxHeartbeats 4000000
attribute [local irreducible] CallP CodeP Ent YieldP

noncomputable def H104 (t : TD) (g : List Tr) : SHeap := [some (.roc [.osl t.bM 1 3 t.nM t.cM, .osl t.bS 2 2 t.nS t.cS, .osl t.bL 3 4 t.nL t.cL, .map 4]),
  some (.roa 3 t.nM (row3 t.mi t.mlo t.mhi)), some (.roa 2 t.nS (row2 t.slo t.shi)), some (.roa 4 t.nL (row4 t.lp t.lm t.llo t.lhi)), some (.memo 5 t.F []),
  some (.glob 0 [.int .i64 0, .int .i64 1, .int .i64 3, .int .i64 6, .int .i64 9, .int .i64 11, .int .i64 12]),
  some (.roc [.ptr 0 0]), some (.roc [.fn (.func 91) [] [.ptr 6 0, .ptr 7 0, .ptr 8 0, .ptr 9 0]]), some (.roc [.int .u64 (2 ^ t.nL - 1)]), some (.roc [.yld 10]),
  some (L118 11), some (V118 g)]

theorem catF_mono {f : Int → List Tr} {lo : Int} {a b : Nat} (h : a ≤ b) : (catF f lo a).length ≤ (catF f lo b).length := by
  induction h with
  | refl => exact Nat.le_refl _
  | step _ ih => simp only [catF, List.length_append]; omega
theorem cell_at (i : Nat) (hi : i < 4) (a b c d v : Int) : ([if 0 = (i : Int).toNat then v else a, if 1 = (i : Int).toNat then v else b, if 2 = (i : Int).toNat then v else c, if 3 = (i : Int).toNat then v else d] : List Int).getD (i : Int).toNat 0 = v := by
  have : i = 0 ∨ i = 1 ∨ i = 2 ∨ i = 3 := by omega
  rcases this with rfl | rfl | rfl | rfl <;> simp
theorem t104 (t : TD) (hv : t.Valid) : ∀ (r : Nat) (h : Nat → Int) (g : List Tr), r ≤ t.nM → okH h → g.length + (t.tls r h).length ≤ 1000 →
    CallP Tryz.prog 91 [hgt h, .int .i64 ((t.nM - r : Nat)), .ptr 6 0, .ptr 7 0, .ptr 8 0, .ptr 9 0] (H104 t g) (Ret (.bool true) (H104 t (g ++ t.tls r h))) := by
  intro r
  have hM := hv.1
  have hS := hv.2.1
  have hst : ∀ (h : Nat → Int), okH h → ∀ i, i < t.nL → 0 ≤ t.stand h (t.lm i) ∧ t.stand h (t.lm i) ≤ 60 := fun h hh i hi => stand_range hv (hv.2.2.2.2.2 i hi).2.1 hh
  induction r with
  | zero =>
    intro h g hr hh hlen
    refine callR (E := E) E_ok Tryz.func91 rfl ?_
    refine And.intro ?_ (And.intro (fun hc => ?_) (fun hc => ?_))
    · simp [AllP, under, gB, wB, inR_iff, IntKind.bits]
    · simp at hc
    · refine And.intro ?_ ?_
      · simp [AllP, under, gB, wB, inR_iff, IntKind.bits]
      refine loopP E_ok [0, 1, 2, 3, 4, 5, 6, 11, 62, 63] (fun i : Nat => [(64, .int .i64 i)]) (fun i H => H.set 13 (some (.cells [.int .i64 (h 0), .int .i64 (h 1), .int .i64 (h 2), .int .i64 (h 3), .int .u64 (if 0 < i then t.set h 0 else 0), .int .u64 (if 1 < i then t.set h 1 else 0), .int .u64 (if 2 < i then t.set h 2 else 0), .int .u64 (if 3 < i then t.set h 3 else 0)])))
        (fun i => i ≤ t.nS ∧ ∀ j, j < i → t.set h j ≠ 0) (fun i => t.nS - i) 0 ⟨Nat.zero_le _, fun j hj => by omega⟩ ?_ ?_
      · exact ent_tau [0, 1, 2, 3, 4, 5, 6, 7, 8, 9, 10, 11, 12, 13] ⟨by (repeat' (first | exact trivial | exact rfl | exact fun _ _ => rfl | exact Or.inl rfl | refine And.intro ?_ ?_)), by (repeat' (first | exact trivial | exact rfl | exact congrArg (SV.int .i64) (Int.natCast_succ _).symm | refine And.intro ?_ ?_)), rfl⟩
      · rintro i ⟨hi, hall⟩
        refine And.intro ?_ (And.intro (fun hlt => ?_) (fun hlt => ?_))
        · simp [AllP, under, gB, wB, inR_iff, IntKind.bits]
        · have hlt' : i < t.nS := by simpa using hlt
          refine And.intro ?_ ?_
          · simp [AllP, under, gB, wB, inR_iff, IntKind.bits]
          refine (t106 t hv h hh (hst h hh) i hlt').use [0, 1, 2, 3, 4, 5] ?_ (by (repeat' (first | exact trivial | exact rfl | exact fun _ _ => rfl | exact Or.inl rfl | refine And.intro ?_ ?_))) rfl
          refine And.intro ?_ (And.intro (fun hz => ?_) (fun hz => ?_))
          · simp [AllP, under, gB, wB, inR_iff, IntKind.bits]
            omega
          · rw [cell_at i (by omega)] at hz
            have hz' : t.set h i = 0 := by simpa using hz
            have e0 : t.tls 0 h = [] := by
              have : ¬ allB (fun p => !decide (t.set h p = 0)) t.nS = true := fun hx => by
                have := allB_iff.1 hx i hlt'
                simp [hz'] at this
              simp only [TD.tls]
              rw [if_neg this]
            rw [e0, List.append_nil]
            refine And.intro ?_ ?_
            · simp [AllP, under, gB, wB, inR_iff, IntKind.bits]
            refine And.intro trivial ?_
            exact ent_tau [0, 1, 2, 3, 4, 5, 6, 7, 8, 9, 10, 11] ⟨by (repeat' (first | exact trivial | exact rfl | exact fun _ _ => rfl | exact Or.inl rfl | refine And.intro ?_ ?_)), by (repeat' (first | exact trivial | exact rfl | exact congrArg (SV.int .i64) (Int.natCast_succ _).symm | refine And.intro ?_ ?_)), rfl⟩
          · rw [cell_at i (by omega)] at hz
            have hz' : ¬ t.set h i = 0 := by simpa using hz
            refine And.intro ?_ ⟨i + 1, ⟨hlt', fun j hj => ?_⟩, by omega, ?_⟩
            · simp [AllP, under, gB, wB, inR_iff, IntKind.bits]
              omega
            · rcases Nat.lt_or_ge j i with h1 | h1
              · exact hall j h1
              · have : j = i := by omega
                subst this
                exact hz'
            · refine ent_tau [0, 1, 2, 3, 4, 5, 6, 7, 8, 9, 10, 11, 12, 13] ⟨?_, by (repeat' (first | exact trivial | exact rfl | exact congrArg (SV.int .i64) (Int.natCast_succ _).symm | refine And.intro ?_ ?_)), rfl⟩
              (repeat' (first | exact trivial | exact rfl | exact fun _ _ => rfl | exact Or.inl rfl | refine And.intro ?_ ?_))
              have : i = 0 ∨ i = 1 ∨ i = 2 ∨ i = 3 := by omega
              rcases this with rfl | rfl | rfl | rfl <;> simp [renL, ren] <;> rfl
        · have hiL : i = t.nS := by
            have : ¬ (i < t.nS) := by simpa using hlt
            omega
          subst hiL
          have hg : g.length ≤ 1000 := by omega
          have hall' : allB (fun p => !decide (t.set h p = 0)) t.nS = true := allB_iff.2 fun j hj => by simp [hall j hj]
          have e0 : t.tls 0 h = [t.tr h] := by
            simp only [TD.tls]
            rw [if_pos hall']
          rw [e0]
          refine And.intro ?_ ?_
          · simp [AllP, under, gB, wB, inR_iff, IntKind.bits]
          refine And.intro trivial ?_
          refine (y118 g (t.tr h) hg).use [10, 11] ?_ (by (repeat' (first | exact trivial | exact rfl | exact fun _ _ => rfl | exact Or.inl rfl | refine And.intro ?_ ?_))) rfl
          refine And.intro ?_ ?_
          · simp [AllP, under, gB, wB, inR_iff, IntKind.bits]
          exact ent_tau [0, 1, 2, 3, 4, 5, 6, 7, 8, 9, 10, 11] ⟨by (repeat' (first | exact trivial | exact rfl | exact fun _ _ => rfl | exact Or.inl rfl | refine And.intro ?_ ?_)), by (repeat' (first | exact trivial | exact rfl | exact congrArg (SV.int .i64) (Int.natCast_succ _).symm | refine And.intro ?_ ?_)), rfl⟩
  | succ r ih =>
    intro h g hr hh hlen
    have hk4 : t.nM - (r + 1) < 4 := by omega
    have hkM : t.nM - (r + 1) < t.nM := by omega
    have hm := hv.marks hkM
    simp only [TD.markOk] at hm
    have hk1 : t.nM - (r + 1) + 1 = t.nM - r := by omega
    have htl : t.tls (r + 1) h = catF (fun n => t.tls r (upd h (t.nM - (r + 1)) n)) (t.mlo (t.nM - (r + 1))) (t.mhi (t.nM - (r + 1)) - t.mlo (t.nM - (r + 1)) + 1).toNat := rfl
    rw [htl] at hlen ⊢
    generalize hk : t.nM - (r + 1) = k at *
    have ek : (0 + (k : Int).toNat) = k := by omega
    refine callR (E := E) E_ok Tryz.func91 rfl ?_
    refine And.intro ?_ (And.intro (fun hc => ?_) (fun hc => ?_))
    · simp [AllP, under, gB, wB, inR_iff, IntKind.bits]
    · refine And.intro ?_ ?_
      · simp [AllP, under, gB, wB, inR_iff, IntKind.bits]
        omega
      rw [ek]
      refine loopP E_ok [0, 1, 2, 3, 4, 5, 6, 9] (fun j : Nat => [(10, .int .i64 (t.mlo k + j))]) (fun j H => H.set 11 (some (V118 (g ++ catF (fun n => t.tls r (upd h k n)) (t.mlo k) j))))
        (fun j => t.mlo k + j ≤ t.mhi k + 1) (fun j => (t.mhi k + 1 - t.mlo k - j).toNat) 0 (by omega) ?_ ?_
      · refine ent_tau [0, 1, 2, 3, 4, 5, 6, 7, 8, 9, 10, 11, 12] ⟨?_, ?_, rfl⟩
        · (repeat' (first | exact trivial | exact rfl | exact fun _ _ => rfl | exact Or.inl rfl | refine And.intro ?_ ?_))
          · simp [catF]
          · intro x hx
            simp only [catF, List.append_nil]
            rfl
        · (repeat' (first | exact trivial | exact rfl | exact congrArg (SV.int .i64) (Int.natCast_succ _).symm | refine And.intro ?_ ?_))
          exact congrArg (SV.int .i64) (by simp)
      · intro j hj
        refine And.intro ?_ (And.intro (fun hn => ?_) (fun hn => ?_))
        · simp [AllP, under, gB, wB, inR_iff, IntKind.bits]
          omega
        · rw [ek] at hn
          have hn' : t.mlo k + j ≤ t.mhi k := by simpa using hn
          have hsub : (catF (fun n => t.tls r (upd h k n)) (t.mlo k) (j + 1)).length ≤ (catF (fun n => t.tls r (upd h k n)) (t.mlo k) (t.mhi k - t.mlo k + 1).toNat).length := catF_mono (by omega)
          have hcat : catF (fun n => t.tls r (upd h k n)) (t.mlo k) (j + 1) = catF (fun n => t.tls r (upd h k n)) (t.mlo k) j ++ t.tls r (upd h k (t.mlo k + j)) := rfl
          have hl2 : (g ++ catF (fun n => t.tls r (upd h k n)) (t.mlo k) j).length + (t.tls r (upd h k (t.mlo k + j))).length ≤ 1000 := by
            rw [hcat, List.length_append] at hsub
            rw [List.length_append]
            omega
          have ihx := ih (upd h k (t.mlo k + j)) (g ++ catF (fun n => t.tls r (upd h k n)) (t.mlo k) j) (by omega) (okH_upd hh (by omega)) hl2
          have e1 : ((t.nM - r : Nat) : Int) = (k : Int) + 1 := by omega
          rw [e1] at ihx
          refine And.intro ?_ ?_
          · simp [AllP, under, gB, wB, inR_iff, IntKind.bits]
          refine drawP E_ok [] pl91_6 (by kernel_rfl) ?_
          refine And.intro (And.intro ?_ ?_) trivial
          · simp [AllP, under, gB, wB, inR_iff, IntKind.bits]
            omega
          refine (t105 h k hk4 (t.mlo k + j)).use [] ?_ (by (repeat' (first | exact trivial | exact rfl | exact fun _ _ => rfl | exact Or.inl rfl | refine And.intro ?_ ?_))) rfl
          refine And.intro (And.intro ?_ ?_) trivial
          · simp [AllP, under, gB, wB, inR_iff, IntKind.bits]
          refine (ihx).use [0, 1, 2, 3, 4, 5, 6, 7, 8, 9, 10, 11] ?_ (by (repeat' (first | exact trivial | exact rfl | exact fun _ _ => rfl | exact Or.inl rfl | refine And.intro ?_ ?_))) rfl
          refine And.intro ?_ (And.intro rfl ?_)
          · simp [AllP, under, gB, wB, inR_iff, IntKind.bits]
          refine And.intro ?_ (And.intro (fun hb => ?_) (fun hb => ?_))
          · simp [AllP, under, gB, wB, inR_iff, IntKind.bits]
          · simp at hb
          · refine And.intro ?_ ⟨j + 1, by omega, by omega, ?_⟩
            · simp [AllP, under, gB, wB, inR_iff, IntKind.bits]
              omega
            · refine ent_tau [0, 1, 2, 3, 4, 5, 6, 7, 8, 9, 10, 11, 12] ⟨?_, ?_, rfl⟩
              · (repeat' (first | exact trivial | exact rfl | exact fun _ _ => rfl | exact Or.inl rfl | refine And.intro ?_ ?_))
                · simp [catF]
                · intro x hx
                  rw [hcat, ← List.append_assoc]
                  rfl
              · (repeat' (first | exact trivial | exact rfl | exact congrArg (SV.int .i64) (Int.natCast_succ _).symm | refine And.intro ?_ ?_))
                exact congrArg (SV.int .i64) (by push_cast; omega)
        · rw [ek] at hn
          have hn' : ¬ (t.mlo k + j ≤ t.mhi k) := by simpa using hn
          have ej : (t.mhi k - t.mlo k + 1).toNat = j := by omega
          rw [ej]
          refine And.intro ?_ ?_
          · simp [AllP, under, gB, wB, inR_iff, IntKind.bits]
          refine And.intro trivial ?_
          exact ent_tau [0, 1, 2, 3, 4, 5, 6, 7, 8, 9, 10, 11] ⟨by (repeat' (first | exact trivial | exact rfl | exact fun _ _ => rfl | exact Or.inl rfl | refine And.intro ?_ ?_)), by (repeat' (first | exact trivial | exact rfl | exact congrArg (SV.int .i64) (Int.natCast_succ _).symm | refine And.intro ?_ ?_)), rfl⟩
    · simp at hc
      omega
end Go.Proofs.YtipbempkngfdbaaGreatDoor
/-
  All truths, gathered.
-/
namespace Go.Proofs.YtipbempkngfdbaaGreatDoor
open Go Go.Sy
set_option linter.unusedSimpArgs false
set_option maxRecDepth 100000
set_option maxHeartbeats 4000000
attribute [local irreducible] CallP CodeP Ent YieldP

noncomputable def H103 (t : TD) (g : List Tr) : SHeap := [some (.roc [.osl t.bM 1 3 t.nM t.cM, .osl t.bS 2 2 t.nS t.cS, .osl t.bL 3 4 t.nL t.cL, .map 4]),
  some (.roa 3 t.nM (row3 t.mi t.mlo t.mhi)), some (.roa 2 t.nS (row2 t.slo t.shi)), some (.roa 4 t.nL (row4 t.lp t.lm t.llo t.lhi)), some (.memo 5 t.F []),
  some (.glob 0 [.int .i64 0, .int .i64 1, .int .i64 3, .int .i64 6, .int .i64 9, .int .i64 11, .int .i64 12]),
  some (.roc [.ptr 0 0]), some (.roc [.int .u64 (2 ^ t.nL - 1)]), some (L118 9), some (V118 g)]

theorem t103 (t : TD) (hv : t.Valid) (g : List Tr) (hg : g.length ≤ 100) : CallP Tryz.prog 90 [.yld 8, .ptr 6 0, .ptr 7 0] (H103 t g) (Ret (.tup []) (H103 t (g ++ t.all))) := by
  have hl := all_len hv
  have h0 : okH (fun _ => 0) := fun i => ⟨Int.le_refl _, by show (0 : Int) ≤ 60; decide⟩
  have hc := t104 t hv t.nM (fun _ => 0) g (Nat.le_refl _) h0 (by show g.length + t.all.length ≤ 1000; omega)
  have e : ((t.nM - t.nM : Nat) : Int) = 0 := by simp
  rw [e] at hc
  refine callR (E := E) E_ok Tryz.func90 rfl ?_
  refine And.intro ?_ ?_
  · simp [AllP, under, gB, wB, inR_iff, IntKind.bits]
  refine (hc).use [0, 1, 2, 3, 4, 5, 6, 11, 7, 10, 8, 9] ?_ (by (repeat' (first | exact trivial | exact rfl | exact fun _ _ => rfl | exact Or.inl rfl | refine And.intro ?_ ?_))) rfl
  refine And.intro ?_ ?_
  · simp [AllP, under, gB, wB, inR_iff, IntKind.bits]
  exact ent_tau [0, 1, 2, 3, 4, 5, 6, 7, 8, 9] ⟨by (repeat' (first | exact trivial | exact rfl | exact fun _ _ => rfl | exact Or.inl rfl | refine And.intro ?_ ?_)), by (repeat' (first | exact trivial | exact rfl | exact congrArg (SV.int .i64) (Int.natCast_succ _).symm | refine And.intro ?_ ?_)), rfl⟩

noncomputable def H64 (t : TD) : SHeap := [some (.roc [.osl t.bM 1 3 t.nM t.cM, .osl t.bS 2 2 t.nS t.cS, .osl t.bL 3 4 t.nL t.cL, .map 4]),
  some (.roa 3 t.nM (row3 t.mi t.mlo t.mhi)), some (.roa 2 t.nS (row2 t.slo t.shi)), some (.roa 4 t.nL (row4 t.lp t.lm t.llo t.lhi)), some (.memo 5 t.F []),
  some (.glob 0 [.int .i64 0, .int .i64 1, .int .i64 3, .int .i64 6, .int .i64 9, .int .i64 11, .int .i64 12]),
  some (.roc [.ptr 0 0]), some (.roc [.int .u64 (2 ^ t.nL - 1)])]
/-- A slice of truths. -/
def KSl (base : SHeap) (i : Nat) (g : List Tr) : CE → SHeap → Prop := fun ce h' =>
  (g = [] ∧ ce = .ret .snil ∧ h' = base) ∨ (0 < g.length ∧ ∃ cap, g.length ≤ cap ∧ cap ≤ 9223372036854775807 ∧ ce = .ret (.slice i 8 0 g.length cap) ∧ h' = base ++ [some (.arr 8 g.length cap (rows g))])

theorem t118 (t : TD) (hv : t.Valid) : CallP Tryz.prog 101 [.snil, .fn (.func 90) [] [.ptr 6 0, .ptr 7 0]] (H64 t) (KSl (H64 t) 8 t.all) := by
  refine callM (E := E) E_ok Tryz.func101 rfl ?_
  refine And.intro ?_ ?_
  · simp [AllP, under, gB, wB, inR_iff, IntKind.bits]
  refine rangeP E_ok rfl rfl ?_
  refine CallP.pre (vecNil (i := 8) 8 (rows []) rfl) (CallP.postVec (i := 8) ?_)
  refine (t103 t hv [] (by simp)).use [0, 1, 2, 3, 4, 5, 6, 7, 10, 8] ?_ (by (repeat' (first | exact trivial | exact rfl | exact fun _ _ => rfl | exact Or.inl rfl | refine And.intro ?_ ?_))) rfl
  refine ⟨_, _, _, rfl, fun h0 => ?_, fun h0 cap hc1 hc2 => ?_⟩
  · refine ⟨by decide, ?_⟩
    refine And.intro ?_ ?_
    · simp [AllP, under, gB, wB, inR_iff, IntKind.bits]
    refine And.intro (fun o h => h) ?_
    refine And.intro ?_ ?_
    · simp [AllP, under, gB, wB, inR_iff, IntKind.bits]
    have e : t.all = [] := List.eq_nil_of_length_eq_zero (by simpa using h0)
    refine ⟨_, _, .inl ⟨e, rfl, rfl⟩, ?_⟩
    exact ent_tau [0, 1, 2, 3, 4, 5, 6, 7] ⟨by (repeat' (first | exact trivial | exact rfl | exact fun _ _ => rfl | exact Or.inl rfl | refine And.intro ?_ ?_)), by (repeat' (first | exact trivial | exact rfl | exact congrArg (SV.int .i64) (Int.natCast_succ _).symm | refine And.intro ?_ ?_)), rfl⟩
  · refine ⟨by decide, ?_⟩
    refine And.intro ?_ ?_
    · simp [AllP, under, gB, wB, inR_iff, IntKind.bits]
    refine And.intro (fun o h => h) ?_
    refine And.intro ?_ ?_
    · simp [AllP, under, gB, wB, inR_iff, IntKind.bits]
    rw [List.nil_append] at h0 hc1
    refine ⟨_, _, .inr ⟨h0, cap, hc1, hc2, rfl, rfl⟩, ?_⟩
    refine ent_tau [0, 1, 2, 3, 4, 5, 6, 7, 11] ⟨?_, ?_, rfl⟩
    · (repeat' (first | exact trivial | exact rfl | exact fun _ _ => rfl | exact Or.inl rfl | refine And.intro ?_ ?_))
    · (repeat' (first | exact trivial | exact rfl | exact congrArg (SV.int .i64) (Int.natCast_succ _).symm | refine And.intro ?_ ?_))
theorem t97 (t : TD) (hv : t.Valid) : CallP Tryz.prog 84 [.fn (.func 90) [] [.ptr 6 0, .ptr 7 0]] (H64 t) (KSl (H64 t) 8 t.all) := by
  refine callK (E := E) E_ok Tryz.func84 rfl ?_
  refine And.intro ?_ ?_
  · simp [AllP, under, gB, wB, inR_iff, IntKind.bits]
  refine CallP.frame (t118 t hv) [0, 1, 2, 3, 4, 5, 6, 7] (by (repeat' (first | exact trivial | exact rfl | exact fun _ _ => rfl | exact Or.inl rfl | refine And.intro ?_ ?_))) (apartB_ok rfl) rfl ?_
  rintro ce h' (⟨h0, rfl, rfl⟩ | ⟨h0, cap, hc1, hc2, rfl, rfl⟩)
  · refine ⟨ownB_ok rfl, ?_⟩
    refine And.intro ?_ ?_
    · simp [AllP, under, gB, wB, inR_iff, IntKind.bits]
    refine ⟨_, _, .inl ⟨h0, rfl, rfl⟩, ?_⟩
    exact ent_tau [0, 1, 2, 3, 4, 5, 6, 7] ⟨by (repeat' (first | exact trivial | exact rfl | exact fun _ _ => rfl | exact Or.inl rfl | refine And.intro ?_ ?_)), by (repeat' (first | exact trivial | exact rfl | exact congrArg (SV.int .i64) (Int.natCast_succ _).symm | refine And.intro ?_ ?_)), rfl⟩
  · refine ⟨ownB_ok rfl, ?_⟩
    refine And.intro ?_ ?_
    · simp [AllP, under, gB, wB, inR_iff, IntKind.bits]
    refine ⟨_, _, .inr ⟨h0, cap, hc1, hc2, rfl, rfl⟩, ?_⟩
    exact ent_tau [0, 1, 2, 3, 4, 5, 6, 7, 8] ⟨by (repeat' (first | exact trivial | exact rfl | exact fun _ _ => rfl | exact Or.inl rfl | refine And.intro ?_ ?_)), by (repeat' (first | exact trivial | exact rfl | exact congrArg (SV.int .i64) (Int.natCast_succ _).symm | refine And.intro ?_ ?_)), rfl⟩
theorem t64 (so : Int) : CallP Tryz.prog 60 [.ptr 0 0, .int .u64 so] [some .dead] (Ret (.fn (.func 90) [] [.ptr 1 0, .ptr 2 0]) [some .dead, some (.cells [.ptr 0 0]), some (.cells [.int .u64 so])]) := by
  refine callR (E := E) E_ok Tryz.func60 rfl ?_
  refine And.intro ?_ ?_
  · simp [AllP, under, gB, wB, inR_iff, IntKind.bits]
  exact ent_tau [0, 1, 2] ⟨by (repeat' (first | exact trivial | exact rfl | exact fun _ _ => rfl | exact Or.inl rfl | refine And.intro ?_ ?_)), by (repeat' (first | exact trivial | exact rfl | exact congrArg (SV.int .i64) (Int.natCast_succ _).symm | refine And.intro ?_ ?_)), rfl⟩
theorem t48 (t : TD) (hv : t.Valid) : CallP Tryz.prog 32 [.ptr 0 0] t.sh (fun ce h' =>
    (t.all = [] ∧ ce = .panic (.iface 105 (.agg [.int .i64 10])) ∧ h' = t.sh) ∨ (0 < t.all.length ∧ ∃ cap, t.all.length ≤ cap ∧ cap ≤ 9223372036854775807 ∧ ce = .ret (.slice 6 8 0 t.all.length cap) ∧ h' = t.sh ++ [some (.arr 8 t.all.length cap (rows t.all))])) := by
  refine callK (E := E) E_ok Tryz.func32 rfl ?_
  refine And.intro ?_ ?_
  · simp [AllP, under, gB, wB, inR_iff, IntKind.bits]
  refine (t63 t hv).use [0, 1, 2, 3, 4, 5] ?_ (by (repeat' (first | exact trivial | exact rfl | exact fun _ _ => rfl | exact Or.inl rfl | refine And.intro ?_ ?_))) rfl
  refine And.intro ?_ ?_
  · simp [AllP, under, gB, wB, inR_iff, IntKind.bits]
  refine (t64 (2 ^ t.nL - 1)).use [0] ?_ (by (repeat' (first | exact trivial | exact rfl | exact fun _ _ => rfl | exact Or.inl rfl | refine And.intro ?_ ?_))) rfl
  refine And.intro ?_ ?_
  · simp [AllP, under, gB, wB, inR_iff, IntKind.bits]
  refine CallP.frame (t97 t hv) [0, 1, 2, 3, 4, 5, 6, 7] (by (repeat' (first | exact trivial | exact rfl | exact fun _ _ => rfl | exact Or.inl rfl | refine And.intro ?_ ?_))) (apartB_ok rfl) rfl ?_
  rintro ce h' (⟨h0, rfl, rfl⟩ | ⟨h0, cap, hc1, hc2, rfl, rfl⟩)
  · refine ⟨ownB_ok rfl, ?_⟩
    refine And.intro ?_ ?_
    · simp [AllP, under, gB, wB, inR_iff, IntKind.bits]
    refine (t65_false 10).useP [] ?_ (by (repeat' (first | exact trivial | exact rfl | exact fun _ _ => rfl | exact Or.inl rfl | refine And.intro ?_ ?_))) rfl
    refine And.intro ?_ ⟨_, _, .inl ⟨h0, rfl, rfl⟩, ?_⟩
    · simp [AllP, under, gB, wB, inR_iff, IntKind.bits]
    exact ent_tau [0, 1, 2, 3, 4, 5] ⟨by (repeat' (first | exact trivial | exact rfl | exact fun _ _ => rfl | exact Or.inl rfl | refine And.intro ?_ ?_)), by (repeat' (first | exact trivial | exact rfl | exact congrArg (SV.int .i64) (Int.natCast_succ _).symm | refine And.intro ?_ ?_)), rfl⟩
  · refine ⟨ownB_ok rfl, ?_⟩
    have hd : decide ((t.all.length : Int) > 0) = true := by simpa using h0
    refine And.intro ?_ ?_
    · simp [AllP, under, gB, wB, inR_iff, IntKind.bits]
    rw [hd]
    refine (t65_true 10).use [] ?_ (by (repeat' (first | exact trivial | exact rfl | exact fun _ _ => rfl | exact Or.inl rfl | refine And.intro ?_ ?_))) rfl
    refine And.intro ?_ ?_
    · simp [AllP, under, gB, wB, inR_iff, IntKind.bits]
    refine ⟨_, _, .inr ⟨h0, cap, hc1, hc2, rfl, rfl⟩, ?_⟩
    exact ent_tau [0, 1, 2, 3, 4, 5, 8] ⟨by (repeat' (first | exact trivial | exact rfl | exact fun _ _ => rfl | exact Or.inl rfl | refine And.intro ?_ ?_)), by (repeat' (first | exact trivial | exact rfl | exact congrArg (SV.int .i64) (Int.natCast_succ _).symm | refine And.intro ?_ ?_)), rfl⟩
end Go.Proofs.YtipbempkngfdbaaGreatDoor
/-
  Contracts: a tide is opened.
-/
namespace Go.Proofs.YtipbempkngfdbaaGreatDoor
open Go Go.Sy
set_option linter.unusedSimpArgs false
set_option maxRecDepth 100000
set_option maxHeartbeats 4000000
attribute [local irreducible] CallP CodeP Ent YieldP
set_option maxHeartbeats 800000

theorem must {b : Bool} {e : Int} {H : SHeap} {K : CE → SHeap → Prop} (h1 : b = true → fcH H fun H => K (.ret (.tup [])) H) (h2 : b = false → fcH H fun H => K (.panic (.iface 105 (.agg [.int .i64 e]))) H) :
    CallP Tryz.prog 79 [.bool b, .int .i64 e] H K := by
  cases b with
  | true =>
    refine CallP.frame (t65_true e) [] trivial (apartB_ok rfl) rfl ?_
    rintro ce h' ⟨rfl, rfl⟩
    have := h1 rfl
    rw [fcH_eq] at this
    exact ⟨ownB_ok rfl, by simpa [updH, putH, newH, renC, ren, renL] using this⟩
  | false =>
    refine CallP.frame (t65_false e) [] trivial (apartB_ok rfl) rfl ?_
    rintro ce h' ⟨rfl, rfl⟩
    have := h2 rfl
    rw [fcH_eq] at this
    exact ⟨ownB_ok rfl, by simpa [updH, putH, newH, renC, ren, renL] using this⟩
theorem t95 (lo hi : Int) : CallP Tryz.prog 81 [.agg [.int .i64 lo, .int .i64 hi]] [] (Ret (.bool (hiB lo hi && decide (hi - lo ≤ 2))) []) := by
  refine callR (E := E) E_ok Tryz.func81 rfl ?_
  refine And.intro ?_ ?_
  · simp [AllP, under, gB, wB, inR_iff, IntKind.bits]
  refine (t96 lo hi).use [] ?_ (by (repeat' (first | exact trivial | exact rfl | exact fun _ _ => rfl | exact Or.inl rfl | refine And.intro ?_ ?_))) rfl
  refine And.intro ?_ ?_
  · simp [AllP, under, gB, wB, inR_iff, hiB]
    omega
  refine ent_tau [] ⟨by (repeat' (first | exact trivial | exact rfl | exact fun _ _ => rfl | exact Or.inl rfl | refine And.intro ?_ ?_)), ⟨rfl, ?_, trivial⟩, rfl⟩
  refine congrArg SV.bool ?_
  cases hiB lo hi <;> rfl
/-- What comes of it. -/
def K44 (t : TD) (b : Bool) (base : SHeap) (i j : Nat) : CE → SHeap → Prop := fun ce h' =>
  (t.Valid ∧ b = true ∧ ce = .ret (.ptr i 0) ∧ h' = base ++ [some (.cells [.osl t.bM 0 3 t.nM t.cM, .osl t.bS 1 2 t.nS t.cS, .osl t.bL 2 4 t.nL t.cL, .map j]), some (.memo 5 t.F [])]) ∨
  (¬ t.Valid ∧ ce = .panic (.iface 105 (.agg [.int .i64 1])) ∧ h' = base) ∨ (t.Valid ∧ b = false ∧ ce = .panic (.iface 105 (.agg [.int .i64 2])) ∧ h' = base)

noncomputable def B44_1 (t : TD) (c0 : Int) : SHeap := [some (.roa 3 t.nM (row3 t.mi t.mlo t.mhi)), some (.roa 2 t.nS (row2 t.slo t.shi)), some (.roa 4 t.nL (row4 t.lp t.lm t.llo t.lhi)), some (.roc [.int .i64 c0])]
theorem t44_1 (t : TD) (c0 : Int) (f : Nat) (hf : f = 29 ∨ f = 46 ∨ f = 65) (b : Bool)
    (his : t.Valid → CallP Tryz.prog f [.ptr 0 0, .ptr 5 0] (t.shore ++ [some (.roc [.int .i64 c0])]) (Ret (.bool b) (t.shore ++ [some (.roc [.int .i64 c0])]))) :
    CallP Tryz.prog 28 [t.A, .fn (.func f) [] [.ptr 3 0]] (B44_1 t c0) (K44 t b (B44_1 t c0) 4 5) := by
  refine callK (E := E) E_ok Tryz.func28 rfl ?_
  refine And.intro ?_ ?_
  · simp [AllP, under, gB, wB, inR_iff, IntKind.bits]
  refine (t90 _ _ _).use [] ?_ (by (repeat' (first | exact trivial | exact rfl | exact fun _ _ => rfl | exact Or.inl rfl | refine And.intro ?_ ?_))) rfl
  refine And.intro ?_ ?_
  · simp [AllP, under, gB, wB, inR_iff, IntKind.bits]
  refine And.intro (fun h1 => ?_) (fun h1 => ?_)
  · refine (t90 _ _ _).use [] ?_ (by (repeat' (first | exact trivial | exact rfl | exact fun _ _ => rfl | exact Or.inl rfl | refine And.intro ?_ ?_))) rfl
    refine And.intro ?_ ?_
    · simp [AllP, under, gB, wB, inR_iff, IntKind.bits]
    refine must (fun hb => ?_) (fun hb => ?_)
    · -- the lists are as long as they may be
      have hb' : (2 ≤ t.nM ∧ t.nM ≤ 4) ∧ (1 ≤ t.nS ∧ t.nS ≤ 4) ∧ t.nL ≤ 6 := by
        simp [inB, gB, wB] at hb h1
        omega
      obtain ⟨hM, hS, hL⟩ := hb'
      refine And.intro ?_ ?_
      · simp [AllP, under, gB, wB, inR_iff, IntKind.bits]
      refine loopP E_ok [0, 1, 2, 5, 31, 32] (fun i : Nat => [(33, .int .i64 i)]) (fun _ H => H) (fun i => i ≤ t.nM ∧ ∀ j, j < i → t.markOk j) (fun i => t.nM - i) 0 ⟨Nat.zero_le _, fun j h => by omega⟩ ?_ ?_
      · exact ent_tau [0, 1, 2, 3, 4] ⟨by (repeat' (first | exact trivial | exact rfl | exact fun _ _ => rfl | exact Or.inl rfl | refine And.intro ?_ ?_)), by (repeat' (first | exact trivial | exact rfl | exact congrArg (SV.int .i64) (Int.natCast_succ _).symm | refine And.intro ?_ ?_)), rfl⟩
      · rintro i ⟨hi, hall⟩
        refine And.intro ?_ (And.intro (fun hlt => ?_) (fun hlt => ?_))
        · simp [AllP, under, gB, wB, inR_iff, IntKind.bits]
        · have hlt' : i < t.nM := by simpa using hlt
          have ei : (0 + (i : Int).toNat) = i := by omega
          have ei' : (0 + ((i : Int) - 1).toNat) = i - 1 := by omega
          refine And.intro ?_ ?_
          · simp [AllP, under, gB, wB, inR_iff, IntKind.bits]
            omega
          rw [ei]
          refine drawQ E_ok [4, 5] pl28_6 (by kernel_rfl) ?_
          refine And.intro (And.intro ?_ ?_) trivial
          · simp [AllP, under, gB, wB, inR_iff, IntKind.bits]
          refine (t90 _ _ _).use [] ?_ (by (repeat' (first | exact trivial | exact rfl | exact fun _ _ => rfl | exact Or.inl rfl | refine And.intro ?_ ?_))) rfl
          refine And.intro (And.intro ?_ (And.intro (fun h2 => ?_) (fun h2 => ?_))) trivial
          · simp [AllP, under, gB, wB, inR_iff, IntKind.bits]
          · refine (t95 _ _).use [] ?_ (by (repeat' (first | exact trivial | exact rfl | exact fun _ _ => rfl | exact Or.inl rfl | refine And.intro ?_ ?_))) rfl
            refine And.intro (And.intro ?_ ?_) trivial
            · have hp := fun h => hall (i - 1) h
              simp only [TD.markOk] at hp
              simp [inB, gB, wB] at h2
              simp [AllP, under, gB, wB, inR_iff, IntKind.bits, ei', inB, hiB]
              omega
            · refine must (fun hb => ?_) (fun hb => ?_)
              · refine And.intro ?_ ?_
                · simp [AllP, under, gB, wB, inR_iff, IntKind.bits]
                refine And.intro ?_ ?_
                · exact rfl
                refine And.intro ?_ ⟨i + 1, ⟨hlt', fun j hj => ?_⟩, by omega, ?_⟩
                · simp [AllP, under, gB, wB, inR_iff, IntKind.bits]
                  omega
                · rcases Nat.lt_or_ge j i with hji | hji
                  · exact hall j hji
                  · have : j = i := by omega
                    subst this
                    rw [ei'] at hb
                    simp [inB, hiB, gB, wB] at h2 hb
                    simp only [TD.markOk]
                    omega
                · exact ent_tau [0, 1, 2, 3, 4] ⟨by (repeat' (first | exact trivial | exact rfl | exact fun _ _ => rfl | exact Or.inl rfl | refine And.intro ?_ ?_)), by (repeat' (first | exact trivial | exact rfl | exact congrArg (SV.int .i64) (Int.natCast_succ _).symm | refine And.intro ?_ ?_)), rfl⟩
              · refine And.intro ?_ ?_
                · simp [AllP, under, gB, wB, inR_iff, IntKind.bits]
                refine And.intro ?_ ?_
                · exact rfl
                refine And.intro trivial ?_
                refine And.intro ?_ ⟨_, _, .inr (.inl ⟨fun hv => ?_, rfl, rfl⟩), ?_⟩
                · simp [AllP, under, gB, wB, inR_iff, IntKind.bits]
                · have hm := hv.2.2.2.1 i hlt'
                  simp only [TD.markOk] at hm
                  rw [ei'] at hb
                  simp [inB, hiB, gB, wB] at h2 hb
                  omega
                · exact ent_tau [0, 1, 2, 3] ⟨by (repeat' (first | exact trivial | exact rfl | exact fun _ _ => rfl | exact Or.inl rfl | refine And.intro ?_ ?_)), by (repeat' (first | exact trivial | exact rfl | exact congrArg (SV.int .i64) (Int.natCast_succ _).symm | refine And.intro ?_ ?_)), rfl⟩
          · refine And.intro (And.intro ?_ ?_) trivial
            · simp [AllP, under, gB, wB, inR_iff, IntKind.bits]
              simpa [gB, wB] using h2
            · have h2' : inB (t.mi i) 0 240 = false := by simpa [gB, wB] using h2
              refine must (fun hb => ?_) (fun hb => ?_)
              · simp [h2'] at hb
              · refine And.intro ?_ ?_
                · simp [AllP, under, gB, wB, inR_iff, IntKind.bits]
                refine And.intro ?_ ?_
                · exact rfl
                refine And.intro trivial ?_
                refine And.intro ?_ ⟨_, _, .inr (.inl ⟨fun hv => ?_, rfl, rfl⟩), ?_⟩
                · simp [AllP, under, gB, wB, inR_iff, IntKind.bits]
                · have hm := hv.2.2.2.1 i hlt'
                  simp only [TD.markOk] at hm
                  simp [inB, gB, wB] at h2
                  omega
                · exact ent_tau [0, 1, 2, 3] ⟨by (repeat' (first | exact trivial | exact rfl | exact fun _ _ => rfl | exact Or.inl rfl | refine And.intro ?_ ?_)), by (repeat' (first | exact trivial | exact rfl | exact congrArg (SV.int .i64) (Int.natCast_succ _).symm | refine And.intro ?_ ?_)), rfl⟩
        · have hiM : i = t.nM := by
            have : ¬ (i < t.nM) := by simpa using hlt
            omega
          subst hiM
          refine And.intro ?_ ?_
          · simp [AllP, under, gB, wB, inR_iff, IntKind.bits]
          refine And.intro trivial ?_
          refine ⟨t.F, ?_⟩
          refine And.intro ?_ ?_
          · simp [AllP, under, gB, wB, inR_iff, IntKind.bits]
          refine loopP E_ok [0, 1, 2, 5, 8, 71, 72] (fun i : Nat => [(73, .int .i64 i)]) (fun _ H => H) (fun i => i ≤ t.nS ∧ ∀ j, j < i → t.sandOk j) (fun i => t.nS - i) 0 ⟨Nat.zero_le _, fun j h => by omega⟩ ?_ ?_
          · exact ent_tau [0, 1, 2, 3, 4, 5, 6] ⟨by (repeat' (first | exact trivial | exact rfl | exact fun _ _ => rfl | exact Or.inl rfl | refine And.intro ?_ ?_)), by (repeat' (first | exact trivial | exact rfl | exact congrArg (SV.int .i64) (Int.natCast_succ _).symm | refine And.intro ?_ ?_)), rfl⟩
          · rintro i ⟨hi, hsand⟩
            refine And.intro ?_ (And.intro (fun hlt2 => ?_) (fun hlt2 => ?_))
            · simp [AllP, under, gB, wB, inR_iff, IntKind.bits]
            · have hlt' : i < t.nS := by simpa using hlt2
              have ei : (0 + (i : Int).toNat) = i := by omega
              refine And.intro ?_ ?_
              · simp [AllP, under, gB, wB, inR_iff, IntKind.bits]
                omega
              rw [ei]
              refine (t95 _ _).use [] ?_ (by (repeat' (first | exact trivial | exact rfl | exact fun _ _ => rfl | exact Or.inl rfl | refine And.intro ?_ ?_))) rfl
              refine And.intro ?_ ?_
              · simp [AllP, under, gB, wB, inR_iff, IntKind.bits]
              refine must (fun hb => ?_) (fun hb => ?_)
              · refine And.intro ?_ ⟨i + 1, ⟨hlt', fun j hj => ?_⟩, by omega, ?_⟩
                · simp [AllP, under, gB, wB, inR_iff, IntKind.bits]
                  omega
                · rcases Nat.lt_or_ge j i with hji | hji
                  · exact hsand j hji
                  · have : j = i := by omega
                    subst this
                    simp [hiB] at hb
                    simp only [TD.sandOk]
                    omega
                · exact ent_tau [0, 1, 2, 3, 4, 5, 6] ⟨by (repeat' (first | exact trivial | exact rfl | exact fun _ _ => rfl | exact Or.inl rfl | refine And.intro ?_ ?_)), by (repeat' (first | exact trivial | exact rfl | exact congrArg (SV.int .i64) (Int.natCast_succ _).symm | refine And.intro ?_ ?_)), rfl⟩
              · refine And.intro ?_ ?_
                · simp [AllP, under, gB, wB, inR_iff, IntKind.bits]
                refine And.intro ?_ ⟨_, _, .inr (.inl ⟨fun hv => ?_, rfl, rfl⟩), ?_⟩
                · simp [AllP, under, gB, wB, inR_iff, IntKind.bits]
                · have hm := hv.2.2.2.2.1 i hlt'
                  simp only [TD.sandOk] at hm
                  simp [hiB] at hb
                  omega
                · exact ent_tau [0, 1, 2, 3] ⟨by (repeat' (first | exact trivial | exact rfl | exact fun _ _ => rfl | exact Or.inl rfl | refine And.intro ?_ ?_)), by (repeat' (first | exact trivial | exact rfl | exact congrArg (SV.int .i64) (Int.natCast_succ _).symm | refine And.intro ?_ ?_)), rfl⟩
            · have hiS : i = t.nS := by
                have : ¬ (i < t.nS) := by simpa using hlt2
                omega
              subst hiS
              refine And.intro ?_ ?_
              · simp [AllP, under, gB, wB, inR_iff, IntKind.bits]
              refine And.intro trivial ?_
              refine loopP E_ok [0, 1, 8, 83, 84] (fun i : Nat => [(85, .int .i64 i)]) (fun _ H => H) (fun i => i ≤ t.nL ∧ ∀ j, j < i → t.lookOk j) (fun i => t.nL - i) 0 ⟨Nat.zero_le _, fun j h => by omega⟩ ?_ ?_
              · exact ent_tau [0, 1, 2, 3, 4, 5, 6] ⟨by (repeat' (first | exact trivial | exact rfl | exact fun _ _ => rfl | exact Or.inl rfl | refine And.intro ?_ ?_)), by (repeat' (first | exact trivial | exact rfl | exact congrArg (SV.int .i64) (Int.natCast_succ _).symm | refine And.intro ?_ ?_)), rfl⟩
              · rintro i ⟨hi, hlook⟩
                refine And.intro ?_ (And.intro (fun hlt3 => ?_) (fun hlt3 => ?_))
                · simp [AllP, under, gB, wB, inR_iff, IntKind.bits]
                · have hlt' : i < t.nL := by simpa using hlt3
                  have ei : (0 + (i : Int).toNat) = i := by omega
                  refine And.intro ?_ ?_
                  · simp [AllP, under, gB, wB, inR_iff, IntKind.bits]
                    omega
                  rw [ei]
                  refine (t46 t (by omega) (t.lp i)).use [6, 0, 1, 2, 5] ?_ (by (repeat' (first | exact trivial | exact rfl | exact fun _ _ => rfl | exact Or.inl rfl | refine And.intro ?_ ?_))) rfl
                  refine And.intro ?_ (And.intro (fun h6 => ?_) (fun h6 => ?_))
                  · simp [AllP, under, gB, wB, inR_iff, IntKind.bits]
                  · have h6' : inB (t.lp i) 0 (t.nS - 1) = true := by simpa [gB, wB] using h6
                    refine (t57 t (by omega) (by omega) (t.lm i)).use [6, 0, 1, 2, 5] ?_ (by (repeat' (first | exact trivial | exact rfl | exact fun _ _ => rfl | exact Or.inl rfl | refine And.intro ?_ ?_))) rfl
                    refine And.intro ?_ (And.intro (fun h7 => ?_) (fun h7 => ?_))
                    · simp [AllP, under, gB, wB, inR_iff, IntKind.bits]
                    · have h7' : inB (t.lm i) (t.mi 0) (t.mi (t.nM - 1)) = true := by simpa [gB, wB, h6'] using h7
                      refine (t96 _ _).use [] ?_ (by (repeat' (first | exact trivial | exact rfl | exact fun _ _ => rfl | exact Or.inl rfl | refine And.intro ?_ ?_))) rfl
                      refine And.intro ?_ ?_
                      · simp [AllP, under, gB, wB, inR_iff, IntKind.bits]
                      refine must (fun hb => ?_) (fun hb => ?_)
                      · refine And.intro ?_ ⟨i + 1, ⟨hlt', fun j hj => ?_⟩, by omega, ?_⟩
                        · simp [AllP, under, gB, wB, inR_iff, IntKind.bits]
                          omega
                        · rcases Nat.lt_or_ge j i with hji | hji
                          · exact hlook j hji
                          · have : j = i := by omega
                            subst this
                            simp [inB, hiB, gB, wB] at hb h6' h7'
                            simp only [TD.lookOk]
                            omega
                        · exact ent_tau [0, 1, 2, 3, 4, 5, 6] ⟨by (repeat' (first | exact trivial | exact rfl | exact fun _ _ => rfl | exact Or.inl rfl | refine And.intro ?_ ?_)), by (repeat' (first | exact trivial | exact rfl | exact congrArg (SV.int .i64) (Int.natCast_succ _).symm | refine And.intro ?_ ?_)), rfl⟩
                      · refine And.intro ?_ ?_
                        · simp [AllP, under, gB, wB, inR_iff, IntKind.bits]
                        refine And.intro ?_ ⟨_, _, .inr (.inl ⟨fun hv => ?_, rfl, rfl⟩), ?_⟩
                        · simp [AllP, under, gB, wB, inR_iff, IntKind.bits]
                        · have hm := hv.2.2.2.2.2 i hlt'
                          simp only [TD.lookOk] at hm
                          simp [inB, hiB, gB, wB, h6', h7'] at hb h6' h7'
                          omega
                        · exact ent_tau [0, 1, 2, 3] ⟨by (repeat' (first | exact trivial | exact rfl | exact fun _ _ => rfl | exact Or.inl rfl | refine And.intro ?_ ?_)), by (repeat' (first | exact trivial | exact rfl | exact congrArg (SV.int .i64) (Int.natCast_succ _).symm | refine And.intro ?_ ?_)), rfl⟩
                    · have h7' : inB (t.lm i) (t.mi 0) (t.mi (t.nM - 1)) = false := by simpa [gB, wB, h6'] using h7
                      refine And.intro ?_ ?_
                      · simp [AllP, under, gB, wB, inR_iff, IntKind.bits]
                        simp [h6', h7']
                      refine must (fun hb => ?_) (fun hb => ?_)
                      · simp [h6', h7'] at hb
                      · refine And.intro ?_ ?_
                        · simp [AllP, under, gB, wB, inR_iff, IntKind.bits]
                        refine And.intro ?_ ⟨_, _, .inr (.inl ⟨fun hv => ?_, rfl, rfl⟩), ?_⟩
                        · simp [AllP, under, gB, wB, inR_iff, IntKind.bits]
                        · have hm := hv.2.2.2.2.2 i hlt'
                          simp only [TD.lookOk] at hm
                          simp [inB, hiB, gB, wB] at h6' h7'
                          omega
                        · exact ent_tau [0, 1, 2, 3] ⟨by (repeat' (first | exact trivial | exact rfl | exact fun _ _ => rfl | exact Or.inl rfl | refine And.intro ?_ ?_)), by (repeat' (first | exact trivial | exact rfl | exact congrArg (SV.int .i64) (Int.natCast_succ _).symm | refine And.intro ?_ ?_)), rfl⟩
                  · have h6' : inB (t.lp i) 0 (t.nS - 1) = false := by simpa [gB, wB] using h6
                    refine And.intro ?_ (And.intro (fun h7 => ?_) (fun h7 => ?_))
                    · simp [AllP, under, gB, wB, inR_iff, IntKind.bits]
                      exact h6'
                    · simp [gB, wB, h6'] at h7
                    · refine And.intro ?_ ?_
                      · simp [AllP, under, gB, wB, inR_iff, IntKind.bits]
                      refine must (fun hb => ?_) (fun hb => ?_)
                      · simp [h6'] at hb
                      · refine And.intro ?_ ?_
                        · simp [AllP, under, gB, wB, inR_iff, IntKind.bits]
                        refine And.intro ?_ ⟨_, _, .inr (.inl ⟨fun hv => ?_, rfl, rfl⟩), ?_⟩
                        · simp [AllP, under, gB, wB, inR_iff, IntKind.bits]
                        · have hm := hv.2.2.2.2.2 i hlt'
                          simp only [TD.lookOk] at hm
                          simp [inB, hiB, gB, wB] at h6'
                          omega
                        · exact ent_tau [0, 1, 2, 3] ⟨by (repeat' (first | exact trivial | exact rfl | exact fun _ _ => rfl | exact Or.inl rfl | refine And.intro ?_ ?_)), by (repeat' (first | exact trivial | exact rfl | exact congrArg (SV.int .i64) (Int.natCast_succ _).symm | refine And.intro ?_ ?_)), rfl⟩
                · have hiL : i = t.nL := by
                    have : ¬ (i < t.nL) := by simpa using hlt3
                    omega
                  subst hiL
                  have hv : t.Valid := ⟨hM, hS, hL, hall, hsand, hlook⟩
                  refine And.intro ?_ ?_
                  · simp [AllP, under, gB, wB, inR_iff, IntKind.bits]
                  rcases hf with rfl | rfl | rfl
                  · refine And.intro ?_ ?_
                    · simp [AllP, under, gB, wB, inR_iff, IntKind.bits]
                    refine (his hv).use [6, 0, 1, 2, 5, 3] ?_ (by (repeat' (first | exact trivial | exact rfl | exact fun _ _ => rfl | exact Or.inl rfl | refine And.intro ?_ ?_))) rfl
                    refine And.intro ?_ ?_
                    · simp [AllP, under, gB, wB, inR_iff, IntKind.bits]
                    refine must (fun hb => ?_) (fun hb => ?_)
                    · refine And.intro ?_ ⟨_, _, .inl ⟨hv, hb, rfl, rfl⟩, ?_⟩
                      · simp [AllP, under, gB, wB, inR_iff, IntKind.bits]
                      exact ent_tau [0, 1, 2, 3, 6, 5] ⟨by (repeat' (first | exact trivial | exact rfl | exact fun _ _ => rfl | exact Or.inl rfl | refine And.intro ?_ ?_)), by (repeat' (first | exact trivial | exact rfl | exact congrArg (SV.int .i64) (Int.natCast_succ _).symm | refine And.intro ?_ ?_)), rfl⟩
                    · refine And.intro ?_ ⟨_, _, .inr (.inr ⟨hv, hb, rfl, rfl⟩), ?_⟩
                      · simp [AllP, under, gB, wB, inR_iff, IntKind.bits]
                      exact ent_tau [0, 1, 2, 3] ⟨by (repeat' (first | exact trivial | exact rfl | exact fun _ _ => rfl | exact Or.inl rfl | refine And.intro ?_ ?_)), by (repeat' (first | exact trivial | exact rfl | exact congrArg (SV.int .i64) (Int.natCast_succ _).symm | refine And.intro ?_ ?_)), rfl⟩
                  · refine And.intro ?_ ?_
                    · simp [AllP, under, gB, wB, inR_iff, IntKind.bits]
                    refine (his hv).use [6, 0, 1, 2, 5, 3] ?_ (by (repeat' (first | exact trivial | exact rfl | exact fun _ _ => rfl | exact Or.inl rfl | refine And.intro ?_ ?_))) rfl
                    refine And.intro ?_ ?_
                    · simp [AllP, under, gB, wB, inR_iff, IntKind.bits]
                    refine must (fun hb => ?_) (fun hb => ?_)
                    · refine And.intro ?_ ⟨_, _, .inl ⟨hv, hb, rfl, rfl⟩, ?_⟩
                      · simp [AllP, under, gB, wB, inR_iff, IntKind.bits]
                      exact ent_tau [0, 1, 2, 3, 6, 5] ⟨by (repeat' (first | exact trivial | exact rfl | exact fun _ _ => rfl | exact Or.inl rfl | refine And.intro ?_ ?_)), by (repeat' (first | exact trivial | exact rfl | exact congrArg (SV.int .i64) (Int.natCast_succ _).symm | refine And.intro ?_ ?_)), rfl⟩
                    · refine And.intro ?_ ⟨_, _, .inr (.inr ⟨hv, hb, rfl, rfl⟩), ?_⟩
                      · simp [AllP, under, gB, wB, inR_iff, IntKind.bits]
                      exact ent_tau [0, 1, 2, 3] ⟨by (repeat' (first | exact trivial | exact rfl | exact fun _ _ => rfl | exact Or.inl rfl | refine And.intro ?_ ?_)), by (repeat' (first | exact trivial | exact rfl | exact congrArg (SV.int .i64) (Int.natCast_succ _).symm | refine And.intro ?_ ?_)), rfl⟩
                  · refine And.intro ?_ ?_
                    · simp [AllP, under, gB, wB, inR_iff, IntKind.bits]
                    refine (his hv).use [6, 0, 1, 2, 5, 3] ?_ (by (repeat' (first | exact trivial | exact rfl | exact fun _ _ => rfl | exact Or.inl rfl | refine And.intro ?_ ?_))) rfl
                    refine And.intro ?_ ?_
                    · simp [AllP, under, gB, wB, inR_iff, IntKind.bits]
                    refine must (fun hb => ?_) (fun hb => ?_)
                    · refine And.intro ?_ ⟨_, _, .inl ⟨hv, hb, rfl, rfl⟩, ?_⟩
                      · simp [AllP, under, gB, wB, inR_iff, IntKind.bits]
                      exact ent_tau [0, 1, 2, 3, 6, 5] ⟨by (repeat' (first | exact trivial | exact rfl | exact fun _ _ => rfl | exact Or.inl rfl | refine And.intro ?_ ?_)), by (repeat' (first | exact trivial | exact rfl | exact congrArg (SV.int .i64) (Int.natCast_succ _).symm | refine And.intro ?_ ?_)), rfl⟩
                    · refine And.intro ?_ ⟨_, _, .inr (.inr ⟨hv, hb, rfl, rfl⟩), ?_⟩
                      · simp [AllP, under, gB, wB, inR_iff, IntKind.bits]
                      exact ent_tau [0, 1, 2, 3] ⟨by (repeat' (first | exact trivial | exact rfl | exact fun _ _ => rfl | exact Or.inl rfl | refine And.intro ?_ ?_)), by (repeat' (first | exact trivial | exact rfl | exact congrArg (SV.int .i64) (Int.natCast_succ _).symm | refine And.intro ?_ ?_)), rfl⟩
    · refine And.intro ?_ ⟨_, _, .inr (.inl ⟨fun hv => ?_, rfl, rfl⟩), ?_⟩
      · simp [AllP, under, gB, wB, inR_iff, IntKind.bits]
      · have h3 := hv.1
        have h4 := hv.2.1
        have h5 := hv.2.2.1
        simp [inB, gB, wB] at hb h1
        omega
      · exact ent_tau [0, 1, 2, 3] ⟨by (repeat' (first | exact trivial | exact rfl | exact fun _ _ => rfl | exact Or.inl rfl | refine And.intro ?_ ?_)), by (repeat' (first | exact trivial | exact rfl | exact congrArg (SV.int .i64) (Int.natCast_succ _).symm | refine And.intro ?_ ?_)), rfl⟩
  · have h1' : inB (t.nM : Int) 2 4 = false := by simpa [gB, wB] using h1
    refine And.intro ?_ ?_
    · simp [AllP, under, gB, wB, inR_iff, IntKind.bits]
      exact h1'
    refine must (fun hb => ?_) (fun hb => ?_)
    · simp [h1'] at hb
    · refine And.intro ?_ ⟨_, _, .inr (.inl ⟨fun hv => ?_, rfl, rfl⟩), ?_⟩
      · simp [AllP, under, gB, wB, inR_iff, IntKind.bits]
      · have h3 := hv.1
        simp [inB, gB, wB] at h1
        omega
      · exact ent_tau [0, 1, 2, 3] ⟨by (repeat' (first | exact trivial | exact rfl | exact fun _ _ => rfl | exact Or.inl rfl | refine And.intro ?_ ?_)), by (repeat' (first | exact trivial | exact rfl | exact congrArg (SV.int .i64) (Int.natCast_succ _).symm | refine And.intro ?_ ?_)), rfl⟩
end Go.Proofs.YtipbempkngfdbaaGreatDoor
/-
  Contracts: bits of numbers.
-/
namespace Go.Proofs.YtipbempkngfdbaaGreatDoor
open Go Go.Sy
set_option linter.unusedSimpArgs false
set_option maxRecDepth 100000
set_option maxHeartbeats 4000000
attribute [local irreducible] CallP CodeP Ent YieldP

def shr (x : Int) (n : Nat) : Int := x.fdiv (2 ^ n)
def w64 (x : Int) : Int := IntKind.u64.wrap x
/-- How many ones, as the code reckons. -/
def oc64 (x : Int) : Int :=
  let a := w64 (bitOp .and .u64 (shr x 1) 6148914691236517205 + bitOp .and .u64 x 6148914691236517205)
  let b := w64 (bitOp .and .u64 (shr a 2) 3689348814741910323 + bitOp .and .u64 a 3689348814741910323)
  let c := bitOp .and .u64 (w64 (shr b 4 + b)) 1085102592571150095
  let d := w64 (c + shr c 8)
  let e := w64 (d + shr d 16)
  let f := w64 (e + shr e 32)
  bitOp .and .i64 (IntKind.i64.wrap f) 127
theorem t108 (x : Int) : CallP Tryz.prog 95 [.int .u64 x] [] (Ret (.int .i64 (oc64 x)) []) := by
  refine callR (E := Ew) Ew_ok Tryz.func95 rfl ?_
  refine And.intro ?_ ?_
  · simp [AllP, under, gB, wB, inR_iff, IntKind.bits]
  refine ent_tau [] ⟨by (repeat' (first | exact trivial | exact rfl | exact fun _ _ => rfl | exact Or.inl rfl | refine And.intro ?_ ?_)), ⟨rfl, ?_, trivial⟩, rfl⟩
  rfl
theorem t66 (x : Int) : CallP Tryz.prog 80 [.int .u64 x] [] (Ret (.int .i64 (oc64 x)) []) := by
  refine callR (E := E) E_ok Tryz.func80 rfl ?_
  refine And.intro ?_ (And.intro (fun h => ?_) (fun h => ?_))
  · simp [AllP, under, gB, wB, inR_iff, IntKind.bits]
  · cases h
  · refine And.intro ?_ ?_
    · simp [AllP, under, gB, wB, inR_iff, IntKind.bits]
    refine (t108 x).use [] ?_ (by (repeat' (first | exact trivial | exact rfl | exact fun _ _ => rfl | exact Or.inl rfl | refine And.intro ?_ ?_))) rfl
    refine And.intro ?_ ?_
    · simp [AllP, under, gB, wB, inR_iff, IntKind.bits]
    exact ent_tau [] ⟨by (repeat' (first | exact trivial | exact rfl | exact fun _ _ => rfl | exact Or.inl rfl | refine And.intro ?_ ?_)), by (repeat' (first | exact trivial | exact rfl | exact congrArg (SV.int .i64) (Int.natCast_succ _).symm | refine And.intro ?_ ?_)), rfl⟩
/-- The table of math/bits. -/
def dbL : List Int := [0, 1, 56, 2, 57, 49, 28, 3, 61, 58, 42, 50, 38, 29, 17, 4, 62, 47, 59, 36, 45, 43, 51, 22, 53, 39, 33, 30, 24, 18, 12, 5, 63, 55, 48, 27, 60, 41, 37, 16, 46, 35, 44, 21, 52, 32, 23, 11, 54, 26, 40, 15, 34, 20, 31, 10, 25, 14, 19, 9, 13, 8, 7, 6]
def db : SObj := .glob 1 [.int .u8 0, .int .u8 1, .int .u8 56, .int .u8 2, .int .u8 57, .int .u8 49, .int .u8 28, .int .u8 3, .int .u8 61, .int .u8 58, .int .u8 42, .int .u8 50, .int .u8 38, .int .u8 29, .int .u8 17, .int .u8 4, .int .u8 62, .int .u8 47, .int .u8 59, .int .u8 36, .int .u8 45, .int .u8 43, .int .u8 51, .int .u8 22, .int .u8 53, .int .u8 39, .int .u8 33, .int .u8 30, .int .u8 24, .int .u8 18, .int .u8 12, .int .u8 5, .int .u8 63, .int .u8 55, .int .u8 48, .int .u8 27, .int .u8 60, .int .u8 41, .int .u8 37, .int .u8 16, .int .u8 46, .int .u8 35, .int .u8 44, .int .u8 21, .int .u8 52, .int .u8 32, .int .u8 23, .int .u8 11, .int .u8 54, .int .u8 26, .int .u8 40, .int .u8 15, .int .u8 34, .int .u8 20, .int .u8 31, .int .u8 10, .int .u8 25, .int .u8 14, .int .u8 19, .int .u8 9, .int .u8 13, .int .u8 8, .int .u8 7, .int .u8 6]
/-- How many zeros behind the last one, as the code reckons. -/
def tz64 (x : Int) : Int := IntKind.i64.wrap (dbL.getD (shr (w64 (bitOp .and .u64 x (w64 (0 - x)) * 285870213051353865)) 58).toNat 0)
theorem t116 (x : Int) (hx : x ≠ 0) (h0 : 0 ≤ shr (w64 (bitOp .and .u64 x (w64 (0 - x)) * 285870213051353865)) 58) (h1 : shr (w64 (bitOp .and .u64 x (w64 (0 - x)) * 285870213051353865)) 58 < 64) : CallP Tryz.prog 88 [.int .u64 x] [some db] (Ret (.int .i64 (tz64 x)) [some db]) := by
  refine callR (E := Ew) Ew_ok Tryz.func88 rfl ?_
  refine And.intro ?_ (And.intro (fun h => ?_) (fun h => ?_))
  · simp [AllP, under, gB, wB, inR_iff, IntKind.bits]
  · simp [hx] at h
  · refine And.intro ?_ ?_
    · have h2 : (shr (w64 (bitOp .and .u64 x (w64 (0 - x)) * 285870213051353865)) 58).toNat < 64 := by omega
      refine ⟨h2, h0, h1, ?_⟩
      simp [AllP, under, gB, wB, inR_iff, IntKind.bits]
    refine ent_tau [0] ⟨by (repeat' (first | exact trivial | exact rfl | exact fun _ _ => rfl | exact Or.inl rfl | refine And.intro ?_ ?_)), ⟨rfl, ?_, trivial⟩, rfl⟩
    rfl
end Go.Proofs.YtipbempkngfdbaaGreatDoor
/-
  Contracts: both ends of a set, and how many numbers it has.
-/
namespace Go.Proofs.YtipbempkngfdbaaGreatDoor
open Go Go.Sy
set_option linter.unusedSimpArgs false
set_option maxRecDepth 100000
set_option maxHeartbeats 4000000
attribute [local irreducible] CallP CodeP Ent YieldP

theorem t117 (x : Int) (h0 : 0 ≤ x) (h1 : x ≤ 18446744073709551615) : CallP Tryz.prog 89 [.int .u64 x] [] (Ret (.int .i64 (Lib.bitLen x.toNat)) []) :=
  callP_of_calls (fun _ => rfl) (fun _ => rfl) fun W => (bits_Len64 x W h0 h1).mono fun e w' h => ⟨h.1, by rw [h.2]; exact Nat.le_refl _, fun b _ => by rw [h.2], by rw [h.2]; exact .refl _⟩

/-- Numbers of at most three bits in a row: all that is said of them is reckoned. -/
def fewOk (lo m : Nat) : Bool :=
  let x : Int := ((m * 2 ^ lo : Nat) : Int)
  let i := shr (w64 (bitOp .and .u64 x (w64 (0 - x)) * 285870213051353865)) 58
  (decide (0 ≤ i) && decide (i < 64)) && (decide (tz64 x = lo + (if m % 2 = 1 then 0 else if m % 4 = 2 then 1 else 2)) && (decide (oc64 x = (if m = 1 ∨ m = 2 ∨ m = 4 then 1 else if m = 7 then 3 else 2)) && decide (Lib.bitLen (m * 2 ^ lo) = lo + (if 4 ≤ m then 3 else if 2 ≤ m then 2 else 1))))
theorem few_all : ∀ lo, lo < 61 → ∀ m, m < 8 → 0 < m → fewOk lo m = true := by decide
/-- At most three bits in a row. -/
def isFew (x : Int) : Prop := ∃ lo m : Nat, lo < 61 ∧ 0 < m ∧ m < 8 ∧ x = ((m * 2 ^ lo : Nat) : Int)
theorem few_facts {x : Int} (h : isFew x) : x ≠ 0 ∧ (0 ≤ x ∧ x ≤ 18446744073709551615) ∧ (0 ≤ shr (w64 (bitOp .and .u64 x (w64 (0 - x)) * 285870213051353865)) 58 ∧ shr (w64 (bitOp .and .u64 x (w64 (0 - x)) * 285870213051353865)) 58 < 64) ∧
    (0 ≤ tz64 x ∧ tz64 x ≤ Lib.bitLen x.toNat - 1 ∧ (Lib.bitLen x.toNat : Int) - 1 ≤ 63) ∧ 1 ≤ oc64 x ∧ oc64 x ≤ 3 := by
  obtain ⟨lo, m, h1, h2, h3, rfl⟩ := h
  have hf := few_all lo h1 m h3 h2
  simp only [fewOk, Bool.and_eq_true, decide_eq_true_eq] at hf
  obtain ⟨⟨a1, a2⟩, a3, a4, a5⟩ := hf
  have hp : 0 < 2 ^ lo := Nat.pow_pos (by omega)
  have hp2 : 2 ^ lo ≤ 2 ^ 60 := Nat.pow_le_pow_right (by omega) (by omega)
  have hm : m * 2 ^ lo ≤ 7 * 2 ^ 60 := Nat.mul_le_mul (by omega) hp2
  have hm0 : 0 < m * 2 ^ lo := Nat.mul_pos h2 hp
  refine ⟨by omega, by omega, ⟨a1, a2⟩, ?_, ?_⟩
  · rw [a3, Int.toNat_natCast, a5]
    refine ⟨?_, ?_, ?_⟩ <;> (repeat' split) <;> omega
  · rw [a4]
    repeat' split
    all_goals omega
theorem setF_few {t : TD} {h : Nat → Int} {p : Nat} (h0 : 0 ≤ t.slo p) : ∀ c : Nat, ∃ m : Nat, m < 2 ^ c ∧ t.setF h p c = ((m * 2 ^ (t.slo p).toNat : Nat) : Int)
  | 0 => ⟨0, by simp, by simp [TD.setF]⟩
  | c + 1 => by
    obtain ⟨m, h1, h2⟩ := setF_few h0 (t := t) (h := h) (p := p) c
    have e : (t.slo p + c).toNat = (t.slo p).toNat + c := by omega
    simp only [TD.setF, e]
    split
    · refine ⟨m + 2 ^ c, by rw [Nat.pow_succ]; omega, ?_⟩
      rw [h2, Nat.add_mul, ← Nat.pow_add, Nat.add_comm c]
      push_cast
      rfl
    · exact ⟨m, by rw [Nat.pow_succ]; omega, by rw [h2]; simp⟩
theorem set_few {t : TD} (hv : t.Valid) {h : Nat → Int} {p : Nat} (hp : p < t.nS) (hn : t.set h p ≠ 0) : isFew (t.set h p) := by
  have hs := hv.2.2.2.2.1 p hp
  simp only [TD.sandOk] at hs
  obtain ⟨m, h1, h2⟩ := setF_few (t := t) (h := h) hs.1.1 (t.shi p - t.slo p + 1).toNat
  have h3 : 2 ^ (t.shi p - t.slo p + 1).toNat ≤ 2 ^ 3 := Nat.pow_le_pow_right (by omega) (by omega)
  refine ⟨(t.slo p).toNat, m, by omega, ?_, by omega, h2⟩
  rcases Nat.eq_zero_or_pos m with rfl | hm
  · simp only [TD.set, h2] at hn
    simp at hn
  · exact hm
/-- What all truths bear. -/
def fullTr (t : TD) (x : Tr) : Prop := goodTr t x ∧ ∀ p, p < t.nS → isFew (x.s p)
theorem tls_full {t : TD} (hv : t.Valid) : ∀ (r : Nat) (h : Nat → Int), r ≤ t.nM → okH h → ∀ x ∈ t.tls r h, fullTr t x
  | 0, h, _, hh, x, hx => by
    simp only [TD.tls] at hx
    split at hx
    · rename_i hall
      simp at hx
      subst hx
      refine ⟨good_tr hv hh, fun p hp => ?_⟩
      have := allB_iff.1 hall p hp
      simp only [TD.tr, hp, if_true]
      exact set_few hv hp (by simpa using this)
    · simp at hx
  | r + 1, h, hr, hh, x, hx => by
    simp only [TD.tls] at hx
    obtain ⟨j, hj, hx⟩ := catF_mem hx
    have hm := hv.marks (i := t.nM - (r + 1)) (by omega)
    simp only [TD.markOk] at hm
    exact tls_full hv r _ (by omega) (okH_upd hh (by omega)) x hx
theorem all_full {t : TD} (hv : t.Valid) : ∀ x ∈ t.all, fullTr t x := tls_full hv t.nM (fun _ => 0) (Nat.le_refl _) (fun i => ⟨Int.le_refl _, by show (0 : Int) ≤ 60; decide⟩)
/-- Both ends of a set. -/
def loE (x : Int) : Int := tz64 x
def hiE (x : Int) : Int := Lib.bitLen x.toNat - 1
theorem t86 (x : Int) (hx : isFew x) : CallP Tryz.prog 48 [.int .u64 x] [some db] (Ret (.tup [.int .i64 (loE x), .int .i64 (hiE x)]) [some db]) := by
  obtain ⟨f1, f2, f3, f4, f5⟩ := few_facts hx
  refine callR (E := E) E_ok Tryz.func48 rfl ?_
  refine And.intro ?_ ?_
  · simp [AllP, under, gB, wB, inR_iff, IntKind.bits]
  refine (t116 x f1 f3.1 f3.2).use [0] ?_ (by (repeat' (first | exact trivial | exact rfl | exact fun _ _ => rfl | exact Or.inl rfl | refine And.intro ?_ ?_))) rfl
  refine And.intro ?_ ?_
  · simp [AllP, under, gB, wB, inR_iff, IntKind.bits]
  refine (t117 x f2.1 f2.2).use [] ?_ (by (repeat' (first | exact trivial | exact rfl | exact fun _ _ => rfl | exact Or.inl rfl | refine And.intro ?_ ?_))) rfl
  refine And.intro ?_ ?_
  · simp [AllP, under, gB, wB, inR_iff, IntKind.bits]
    omega
  exact ent_tau [0] ⟨by (repeat' (first | exact trivial | exact rfl | exact fun _ _ => rfl | exact Or.inl rfl | refine And.intro ?_ ?_)), by (repeat' (first | exact trivial | exact rfl | exact congrArg (SV.int .i64) (Int.natCast_succ _).symm | refine And.intro ?_ ?_)), rfl⟩
end Go.Proofs.YtipbempkngfdbaaGreatDoor
