/-
  Parts: B14, B15, B16.
-/
import Derived.Test.YtipbempkngfdbaaGreatDoorK20
import Derived.Test.YtipbempkngfdbaaGreatDoorK18
import Derived.Test.YtipbempkngfdbaaGreatDoorK10
set_option linter.unusedVariables false
/-
  The iterator of all truths, with the loop that counts them.
-/
namespace Go.Proofs.YtipbempkngfdbaaGreatDoor
open Go Go.Sy
set_option linter.unusedSimpArgs false
set_option maxRecDepth 100000
set_option maxHeartbeats 4000000
attribute [local irreducible] CallP CodeP Ent YieldP

noncomputable def H104c (t : TD) (g : Int) : SHeap := [some (.roc [.osl t.bM 1 3 t.nM t.cM, .osl t.bS 2 2 t.nS t.cS, .osl t.bL 3 4 t.nL t.cL, .map 4]),
  some (.roa 3 t.nM (row3 t.mi t.mlo t.mhi)), some (.roa 2 t.nS (row2 t.slo t.shi)), some (.roa 4 t.nL (row4 t.lp t.lm t.llo t.lhi)), some (.memo 5 t.F []),
  some (.glob 0 [.int .i64 0, .int .i64 1, .int .i64 3, .int .i64 6, .int .i64 9, .int .i64 11, .int .i64 12]),
  some (.roc [.ptr 0 0]), some (.roc [.fn (.func 91) [] [.ptr 6 0, .ptr 7 0, .ptr 8 0, .ptr 9 0]]), some (.roc [.int .u64 (2 ^ t.nL - 1)]), some (.roc [.yld 10]),
  some (L26 11 12), some (.cells [.int .i64 g]), some (.roc [.ptr 0 0])]

def sumF (t : TD) : List Tr → Int
  | [] => 0
  | x :: l => manyF x t.nS + sumF t l
theorem sumF_app (t : TD) : ∀ (l l' : List Tr), sumF t (l ++ l') = sumF t l + sumF t l'
  | [], l' => by simp [sumF]
  | x :: l, l' => by simp [sumF, sumF_app t l l']; omega
theorem sumF_range {t : TD} (hv : t.Valid) : ∀ (l : List Tr), (∀ x ∈ l, fullTr t x) → 0 ≤ sumF t l ∧ sumF t l ≤ 81 * l.length
  | [], _ => by simp [sumF]
  | x :: l, h => by
    obtain ⟨h1, h2⟩ := sumF_range hv l (fun y hy => h y (List.mem_cons_of_mem _ hy))
    obtain ⟨m1, m2⟩ := manyF_range (h x (List.mem_cons_self ..)) t.nS (Nat.le_refl _)
    have m3 : (3 : Int) ^ t.nS ≤ 3 ^ 4 := by
      have : (3 : Nat) ^ t.nS ≤ 3 ^ 4 := Nat.pow_le_pow_right (by omega) hv.2.1.2
      exact_mod_cast this
    have e81 : (3 : Int) ^ 4 = 81 := by decide
    rw [e81] at m3
    simp only [sumF, List.length_cons]
    push_cast
    omega
theorem t104c (t : TD) (hv : t.Valid) : ∀ (r : Nat) (h : Nat → Int) (g : Int), r ≤ t.nM → okH h → (0 ≤ g ∧ g + 81 * (t.tls r h).length ≤ 1000000) →
    CallP Tryz.prog 91 [hgt h, .int .i64 ((t.nM - r : Nat)), .ptr 6 0, .ptr 7 0, .ptr 8 0, .ptr 9 0] (H104c t g) (Ret (.bool true) (H104c t (g + sumF t (t.tls r h)))) := by
  intro r
  have hM := hv.1
  have hS := hv.2.1
  have hst : ∀ (h : Nat → Int), okH h → ∀ i, i < t.nL → 0 ≤ t.stand h (t.lm i) ∧ t.stand h (t.lm i) ≤ 60 := fun h hh i hi => stand_range hv (hv.2.2.2.2.2 i hi).2.1 hh
  induction r with
  | zero =>
    intro h g hr hh hlen
    refine callR (E := E) E_ok Tryz.func91 rfl ?_
    refine And.intro ?_ (And.intro (fun hc => ?_) (fun hc => ?_))
    · simp [AllP, under, gB, wB, inR_iff, IntKind.bits]
    · simp at hc
    · refine And.intro ?_ ?_
      · simp [AllP, under, gB, wB, inR_iff, IntKind.bits]
      refine loopP E_ok [0, 1, 2, 3, 4, 5, 6, 11, 62, 63] (fun i : Nat => [(64, .int .i64 i)]) (fun i H => H.set 14 (some (.cells [.int .i64 (h 0), .int .i64 (h 1), .int .i64 (h 2), .int .i64 (h 3), .int .u64 (if 0 < i then t.set h 0 else 0), .int .u64 (if 1 < i then t.set h 1 else 0), .int .u64 (if 2 < i then t.set h 2 else 0), .int .u64 (if 3 < i then t.set h 3 else 0)])))
        (fun i => i ≤ t.nS ∧ ∀ j, j < i → t.set h j ≠ 0) (fun i => t.nS - i) 0 ⟨Nat.zero_le _, fun j hj => by omega⟩ ?_ ?_
      · exact ent_tau [0, 1, 2, 3, 4, 5, 6, 7, 8, 9, 10, 11, 12, 13, 14] ⟨by (repeat' (first | exact trivial | exact rfl | exact fun _ _ => rfl | exact Or.inl rfl | refine And.intro ?_ ?_)), by (repeat' (first | exact trivial | exact rfl | exact congrArg (SV.int .i64) (Int.natCast_succ _).symm | refine And.intro ?_ ?_)), rfl⟩
      · rintro i ⟨hi, hall⟩
        refine And.intro ?_ (And.intro (fun hlt => ?_) (fun hlt => ?_))
        · simp [AllP, under, gB, wB, inR_iff, IntKind.bits]
        · have hlt' : i < t.nS := by simpa using hlt
          refine And.intro ?_ ?_
          · simp [AllP, under, gB, wB, inR_iff, IntKind.bits]
          refine (t106 t hv h hh (hst h hh) i hlt').use [0, 1, 2, 3, 4, 5] ?_ (by (repeat' (first | exact trivial | exact rfl | exact fun _ _ => rfl | exact Or.inl rfl | refine And.intro ?_ ?_))) rfl
          refine And.intro ?_ (And.intro (fun hz => ?_) (fun hz => ?_))
          · simp [AllP, under, gB, wB, inR_iff, IntKind.bits]
            omega
          · rw [cell_at i (by omega)] at hz
            have hz' : t.set h i = 0 := by simpa using hz
            have e0 : t.tls 0 h = [] := by
              have : ¬ allB (fun p => !decide (t.set h p = 0)) t.nS = true := fun hx => by
                have := allB_iff.1 hx i hlt'
                simp [hz'] at this
              simp only [TD.tls]
              rw [if_neg this]
            have e9 : g + sumF t [] = g := by simp [sumF]
            rw [e0, e9]
            refine And.intro ?_ ?_
            · simp [AllP, under, gB, wB, inR_iff, IntKind.bits]
            refine And.intro trivial ?_
            exact ent_tau [0, 1, 2, 3, 4, 5, 6, 7, 8, 9, 10, 11, 12] ⟨by (repeat' (first | exact trivial | exact rfl | exact fun _ _ => rfl | exact Or.inl rfl | refine And.intro ?_ ?_)), by (repeat' (first | exact trivial | exact rfl | exact congrArg (SV.int .i64) (Int.natCast_succ _).symm | refine And.intro ?_ ?_)), rfl⟩
          · rw [cell_at i (by omega)] at hz
            have hz' : ¬ t.set h i = 0 := by simpa using hz
            refine And.intro ?_ ⟨i + 1, ⟨hlt', fun j hj => ?_⟩, by omega, ?_⟩
            · simp [AllP, under, gB, wB, inR_iff, IntKind.bits]
              omega
            · rcases Nat.lt_or_ge j i with h1 | h1
              · exact hall j h1
              · have : j = i := by omega
                subst this
                exact hz'
            · refine ent_tau [0, 1, 2, 3, 4, 5, 6, 7, 8, 9, 10, 11, 12, 13, 14] ⟨?_, by (repeat' (first | exact trivial | exact rfl | exact congrArg (SV.int .i64) (Int.natCast_succ _).symm | refine And.intro ?_ ?_)), rfl⟩
              (repeat' (first | exact trivial | exact rfl | exact fun _ _ => rfl | exact Or.inl rfl | refine And.intro ?_ ?_))
              have : i = 0 ∨ i = 1 ∨ i = 2 ∨ i = 3 := by omega
              rcases this with rfl | rfl | rfl | rfl <;> simp [renL, ren] <;> rfl
        · have hiL : i = t.nS := by
            have : ¬ (i < t.nS) := by simpa using hlt
            omega
          subst hiL
          have hg : 0 ≤ g ∧ g ≤ 1000000 := by omega
          have hall' : allB (fun p => !decide (t.set h p = 0)) t.nS = true := allB_iff.2 fun j hj => by simp [hall j hj]
          have e0 : t.tls 0 h = [t.tr h] := by
            simp only [TD.tls]
            rw [if_pos hall']
          have hfull : fullTr t (t.tr h) := tls_full hv 0 h (Nat.zero_le _) hh _ (by rw [e0]; exact List.mem_singleton.2 rfl)
          have e9 : g + sumF t [t.tr h] = g + manyF (t.tr h) t.nS := by simp [sumF]
          rw [e0, e9]
          refine And.intro ?_ ?_
          · simp [AllP, under, gB, wB, inR_iff, IntKind.bits]
          refine And.intro trivial ?_
          refine (y26 t hv g hg (t.tr h) hfull).use [10, 11, 12, 0, 1, 2, 3, 4] ?_ (by (repeat' (first | exact trivial | exact rfl | exact fun _ _ => rfl | exact Or.inl rfl | refine And.intro ?_ ?_))) rfl
          refine And.intro ?_ ?_
          · simp [AllP, under, gB, wB, inR_iff, IntKind.bits]
          exact ent_tau [0, 1, 2, 3, 4, 5, 6, 7, 8, 9, 10, 11, 12] ⟨by (repeat' (first | exact trivial | exact rfl | exact fun _ _ => rfl | exact Or.inl rfl | refine And.intro ?_ ?_)), by (repeat' (first | exact trivial | exact rfl | exact congrArg (SV.int .i64) (Int.natCast_succ _).symm | refine And.intro ?_ ?_)), rfl⟩
  | succ r ih =>
    intro h g hr hh hlen
    have hk4 : t.nM - (r + 1) < 4 := by omega
    have hkM : t.nM - (r + 1) < t.nM := by omega
    have hm := hv.marks hkM
    simp only [TD.markOk] at hm
    have hk1 : t.nM - (r + 1) + 1 = t.nM - r := by omega
    have htl : t.tls (r + 1) h = catF (fun n => t.tls r (upd h (t.nM - (r + 1)) n)) (t.mlo (t.nM - (r + 1))) (t.mhi (t.nM - (r + 1)) - t.mlo (t.nM - (r + 1)) + 1).toNat := rfl
    rw [htl] at hlen ⊢
    generalize hk : t.nM - (r + 1) = k at *
    have ek : (0 + (k : Int).toNat) = k := by omega
    refine callR (E := E) E_ok Tryz.func91 rfl ?_
    refine And.intro ?_ (And.intro (fun hc => ?_) (fun hc => ?_))
    · simp [AllP, under, gB, wB, inR_iff, IntKind.bits]
    · refine And.intro ?_ ?_
      · simp [AllP, under, gB, wB, inR_iff, IntKind.bits]
        omega
      rw [ek]
      refine loopP E_ok [0, 1, 2, 3, 4, 5, 6, 9] (fun j : Nat => [(10, .int .i64 (t.mlo k + j))]) (fun j H => H.set 11 (some (.cells [.int .i64 (g + sumF t (catF (fun n => t.tls r (upd h k n)) (t.mlo k) j))])))
        (fun j => t.mlo k + j ≤ t.mhi k + 1) (fun j => (t.mhi k + 1 - t.mlo k - j).toNat) 0 (by omega) ?_ ?_
      · refine ent_tau [0, 1, 2, 3, 4, 5, 6, 7, 8, 9, 10, 11, 12, 13] ⟨?_, ?_, rfl⟩
        · (repeat' (first | exact trivial | exact rfl | exact fun _ _ => rfl | exact Or.inl rfl | refine And.intro ?_ ?_))
          exact congrArg (fun v => [SV.int .i64 v]) (by simp [catF, sumF])
        · (repeat' (first | exact trivial | exact rfl | exact congrArg (SV.int .i64) (Int.natCast_succ _).symm | refine And.intro ?_ ?_))
          exact congrArg (SV.int .i64) (by simp)
      · intro j hj
        refine And.intro ?_ (And.intro (fun hn => ?_) (fun hn => ?_))
        · simp [AllP, under, gB, wB, inR_iff, IntKind.bits]
          omega
        · rw [ek] at hn
          have hn' : t.mlo k + j ≤ t.mhi k := by simpa using hn
          have hsub : (catF (fun n => t.tls r (upd h k n)) (t.mlo k) (j + 1)).length ≤ (catF (fun n => t.tls r (upd h k n)) (t.mlo k) (t.mhi k - t.mlo k + 1).toNat).length := catF_mono (by omega)
          have hcat : catF (fun n => t.tls r (upd h k n)) (t.mlo k) (j + 1) = catF (fun n => t.tls r (upd h k n)) (t.mlo k) j ++ t.tls r (upd h k (t.mlo k + j)) := rfl
          have hfc : ∀ x ∈ catF (fun n => t.tls r (upd h k n)) (t.mlo k) j, fullTr t x := fun x hx => by
            obtain ⟨i, hi, hx⟩ := catF_mem hx
            exact tls_full hv r _ (by omega) (okH_upd hh (by omega)) x hx
          have hsr := sumF_range hv _ hfc
          have hl2 : 0 ≤ g + sumF t (catF (fun n => t.tls r (upd h k n)) (t.mlo k) j) ∧ g + sumF t (catF (fun n => t.tls r (upd h k n)) (t.mlo k) j) + 81 * (t.tls r (upd h k (t.mlo k + j))).length ≤ 1000000 := by
            rw [hcat, List.length_append] at hsub
            omega
          have ihx := ih (upd h k (t.mlo k + j)) (g + sumF t (catF (fun n => t.tls r (upd h k n)) (t.mlo k) j)) (by omega) (okH_upd hh (by omega)) hl2
          have e1 : ((t.nM - r : Nat) : Int) = (k : Int) + 1 := by omega
          rw [e1] at ihx
          refine And.intro ?_ ?_
          · simp [AllP, under, gB, wB, inR_iff, IntKind.bits]
          refine drawP E_ok [] pl91_6 (by kernel_rfl) ?_
          refine And.intro (And.intro ?_ ?_) trivial
          · simp [AllP, under, gB, wB, inR_iff, IntKind.bits]
            omega
          refine (t105 h k hk4 (t.mlo k + j)).use [] ?_ (by (repeat' (first | exact trivial | exact rfl | exact fun _ _ => rfl | exact Or.inl rfl | refine And.intro ?_ ?_))) rfl
          refine And.intro (And.intro ?_ ?_) trivial
          · simp [AllP, under, gB, wB, inR_iff, IntKind.bits]
          refine (ihx).use [0, 1, 2, 3, 4, 5, 6, 7, 8, 9, 10, 11, 12] ?_ (by (repeat' (first | exact trivial | exact rfl | exact fun _ _ => rfl | exact Or.inl rfl | refine And.intro ?_ ?_))) rfl
          refine And.intro ?_ (And.intro rfl ?_)
          · simp [AllP, under, gB, wB, inR_iff, IntKind.bits]
          refine And.intro ?_ (And.intro (fun hb => ?_) (fun hb => ?_))
          · simp [AllP, under, gB, wB, inR_iff, IntKind.bits]
          · simp at hb
          · refine And.intro ?_ ⟨j + 1, by omega, by omega, ?_⟩
            · simp [AllP, under, gB, wB, inR_iff, IntKind.bits]
              omega
            · refine ent_tau [0, 1, 2, 3, 4, 5, 6, 7, 8, 9, 10, 11, 12, 13] ⟨?_, ?_, rfl⟩
              · (repeat' (first | exact trivial | exact rfl | exact fun _ _ => rfl | exact Or.inl rfl | refine And.intro ?_ ?_))
                exact congrArg (fun v => [SV.int .i64 v]) (by rw [hcat, sumF_app]; omega)
              · (repeat' (first | exact trivial | exact rfl | exact congrArg (SV.int .i64) (Int.natCast_succ _).symm | refine And.intro ?_ ?_))
                exact congrArg (SV.int .i64) (by push_cast; omega)
        · rw [ek] at hn
          have hn' : ¬ (t.mlo k + j ≤ t.mhi k) := by simpa using hn
          have ej : (t.mhi k - t.mlo k + 1).toNat = j := by omega
          rw [ej]
          refine And.intro ?_ ?_
          · simp [AllP, under, gB, wB, inR_iff, IntKind.bits]
          refine And.intro trivial ?_
          exact ent_tau [0, 1, 2, 3, 4, 5, 6, 7, 8, 9, 10, 11, 12] ⟨by (repeat' (first | exact trivial | exact rfl | exact fun _ _ => rfl | exact Or.inl rfl | refine And.intro ?_ ?_)), by (repeat' (first | exact trivial | exact rfl | exact congrArg (SV.int .i64) (Int.natCast_succ _).symm | refine And.intro ?_ ?_)), rfl⟩
    · simp at hc
      omega
end Go.Proofs.YtipbempkngfdbaaGreatDoor
/-
  Contract: tide.Count.
-/
namespace Go.Proofs.YtipbempkngfdbaaGreatDoor
open Go Go.Sy
set_option linter.unusedSimpArgs false
set_option maxRecDepth 100000
set_option maxHeartbeats 4000000
attribute [local irreducible] CallP CodeP Ent YieldP
set_option maxHeartbeats 800000

noncomputable def H103c (t : TD) (g : Int) : SHeap := [some (.roc [.osl t.bM 1 3 t.nM t.cM, .osl t.bS 2 2 t.nS t.cS, .osl t.bL 3 4 t.nL t.cL, .map 4]),
  some (.roa 3 t.nM (row3 t.mi t.mlo t.mhi)), some (.roa 2 t.nS (row2 t.slo t.shi)), some (.roa 4 t.nL (row4 t.lp t.lm t.llo t.lhi)), some (.memo 5 t.F []),
  some (.glob 0 [.int .i64 0, .int .i64 1, .int .i64 3, .int .i64 6, .int .i64 9, .int .i64 11, .int .i64 12]),
  some (.roc [.ptr 0 0]), some (.roc [.int .u64 (2 ^ t.nL - 1)]), some (L26 9 10), some (.cells [.int .i64 g]), some (.roc [.ptr 0 0])]
theorem t103c (t : TD) (hv : t.Valid) (g : Int) (hg : 0 ≤ g ∧ g ≤ 1000) : CallP Tryz.prog 90 [.yld 8, .ptr 6 0, .ptr 7 0] (H103c t g) (Ret (.tup []) (H103c t (g + sumF t t.all))) := by
  have hl := all_len hv
  have h0 : okH (fun _ => 0) := fun i => ⟨Int.le_refl _, by show (0 : Int) ≤ 60; decide⟩
  have hc := t104c t hv t.nM (fun _ => 0) g (Nat.le_refl _) h0 (by show 0 ≤ g ∧ g + 81 * (t.all.length : Int) ≤ 1000000; omega)
  have e : ((t.nM - t.nM : Nat) : Int) = 0 := by simp
  rw [e] at hc
  refine callR (E := E) E_ok Tryz.func90 rfl ?_
  refine And.intro ?_ ?_
  · simp [AllP, under, gB, wB, inR_iff, IntKind.bits]
  refine (hc).use [0, 1, 2, 3, 4, 5, 6, 12, 7, 11, 8, 9, 10] ?_ (by (repeat' (first | exact trivial | exact rfl | exact fun _ _ => rfl | exact Or.inl rfl | refine And.intro ?_ ?_))) rfl
  refine And.intro ?_ ?_
  · simp [AllP, under, gB, wB, inR_iff, IntKind.bits]
  exact ent_tau [0, 1, 2, 3, 4, 5, 6, 7, 8, 9, 10] ⟨by (repeat' (first | exact trivial | exact rfl | exact fun _ _ => rfl | exact Or.inl rfl | refine And.intro ?_ ?_)), by (repeat' (first | exact trivial | exact rfl | exact congrArg (SV.int .i64) (Int.natCast_succ _).symm | refine And.intro ?_ ?_)), rfl⟩
theorem t79 (t : TD) : CallP Tryz.prog 59 [.ptr 0 0] (t.shore ++ []) (Ret (.bool true) (t.shore ++ [])) := by
  refine callR (E := E) E_ok Tryz.func59 rfl ?_
  refine And.intro ?_ ?_
  · simp [AllP, under, gB, wB, inR_iff, IntKind.bits]
  exact ent_tau [0, 1, 2, 3, 4] ⟨by (repeat' (first | exact trivial | exact rfl | exact fun _ _ => rfl | exact Or.inl rfl | refine And.intro ?_ ?_)), by (repeat' (first | exact trivial | exact rfl | exact congrArg (SV.int .i64) (Int.natCast_succ _).symm | refine And.intro ?_ ?_)), rfl⟩
open Classical in
noncomputable def TD.countT (t : TD) : Told Int := if ¬ t.Valid then ⟨0, 1⟩ else ⟨sumF t t.all, 0⟩
theorem t26 (t : TD) : CallP Tryz.prog 14 [t.A] t.HG (Ret (.tup [.int .i64 t.countT.v, .int .i64 t.countT.e]) t.HG) := by
  refine callDM (E := E) E_ok Tryz.func14 rfl Tryz.func58 ⟨_, _, _, _, _, _, _, _, rfl, rfl, rfl⟩ rfl rfl ?_
  refine And.intro ?_ ?_
  · simp [AllP, under, gB, wB, inR_iff, IntKind.bits]
  refine CallP.frame (t44_0 t 59 (.inr rfl) _ (fun _ => t79 t)) [0, 1, 2] (by (repeat' (first | exact trivial | exact rfl | exact fun _ _ => rfl | exact Or.inl rfl | refine And.intro ?_ ?_))) (apartB_ok rfl) rfl ?_
  rintro ce h' (⟨hv, hb, rfl, rfl⟩ | ⟨hv, rfl, rfl⟩ | ⟨hv, hb, rfl, rfl⟩)
  · refine ⟨ownB_ok rfl, ?_⟩
    have e0 : t.countT = ⟨0 + sumF t t.all, 0⟩ := by simp [TD.countT, hv]
    refine And.intro ?_ ?_
    · simp [AllP, under, gB, wB, inR_iff, IntKind.bits]
    refine drawP E_ok [9] pl14_4 (by kernel_rfl) ?_
    refine And.intro (And.intro ?_ ?_) trivial
    · simp [AllP, under, gB, wB, inR_iff, IntKind.bits]
    refine (t63 t hv).use [7, 0, 1, 2, 8, 3] ?_ (by (repeat' (first | exact trivial | exact rfl | exact fun _ _ => rfl | exact Or.inl rfl | refine And.intro ?_ ?_))) rfl
    refine And.intro (And.intro ?_ ?_) trivial
    · simp [AllP, under, gB, wB, inR_iff, IntKind.bits]
    refine (t64 (2 ^ t.nL - 1)).use [7] ?_ (by (repeat' (first | exact trivial | exact rfl | exact fun _ _ => rfl | exact Or.inl rfl | refine And.intro ?_ ?_))) rfl
    refine And.intro ?_ ?_
    · simp [AllP, under, gB, wB, inR_iff, IntKind.bits]
    refine And.intro ?_ ?_
    · exact rfl
    refine And.intro ?_ ?_
    · simp [AllP, under, gB, wB, inR_iff, IntKind.bits]
    refine rangeP E_ok rfl rfl ?_
    refine (t103c t hv 0 (by decide)).use [7, 0, 1, 2, 8, 3, 11, 12, 14, 10, 9] ?_ (by (repeat' (first | exact trivial | exact rfl | exact fun _ _ => rfl | exact Or.inl rfl | refine And.intro ?_ ?_))) rfl
    refine ⟨by decide, ?_⟩
    refine And.intro ?_ ?_
    · simp [AllP, under, gB, wB, inR_iff, IntKind.bits]
    refine And.intro (fun o h => h) ?_
    refine And.intro ?_ ?_
    · simp [AllP, under, gB, wB, inR_iff, IntKind.bits]
    refine (t43_nil 0).use [6] ?_ (by (repeat' (first | exact trivial | exact rfl | exact fun _ _ => rfl | exact Or.inl rfl | refine And.intro ?_ ?_))) rfl
    refine And.intro ?_ ⟨_, _, ⟨rfl, rfl⟩, ?_⟩
    · simp [AllP, under, gB, wB, inR_iff, IntKind.bits]
    rw [e0]
    exact ent_tau [0, 1, 2, 3, 4] ⟨by (repeat' (first | exact trivial | exact rfl | exact fun _ _ => rfl | exact Or.inl rfl | refine And.intro ?_ ?_)), by (repeat' (first | exact trivial | exact rfl | exact congrArg (SV.int .i64) (Int.natCast_succ _).symm | refine And.intro ?_ ?_)), rfl⟩
  · refine ⟨ownB_ok rfl, ?_⟩
    have e0 : t.countT = ⟨0, 1⟩ := by simp [TD.countT, hv]
    refine And.intro ?_ ?_
    · simp [AllP, under, gB, wB, inR_iff, IntKind.bits]
    refine (t43_stop 0 1).use [6] ?_ (by (repeat' (first | exact trivial | exact rfl | exact fun _ _ => rfl | exact Or.inl rfl | refine And.intro ?_ ?_))) rfl
    refine And.intro ?_ ⟨_, _, ⟨rfl, rfl⟩, ?_⟩
    · simp [AllP, under, gB, wB, inR_iff, IntKind.bits]
    rw [e0]
    exact ent_tau [0, 1, 2, 3, 4] ⟨by (repeat' (first | exact trivial | exact rfl | exact fun _ _ => rfl | exact Or.inl rfl | refine And.intro ?_ ?_)), by (repeat' (first | exact trivial | exact rfl | exact congrArg (SV.int .i64) (Int.natCast_succ _).symm | refine And.intro ?_ ?_)), rfl⟩
  · cases hb
end Go.Proofs.YtipbempkngfdbaaGreatDoor
/-
  Contract: how many truths have each depth at a place at a minute.
-/
namespace Go.Proofs.YtipbempkngfdbaaGreatDoor
open Go Go.Sy
set_option linter.unusedSimpArgs false
set_option maxRecDepth 100000
set_option maxHeartbeats 4000000
attribute [local irreducible] CallP CodeP Ent YieldP

theorem aval_aset (m : List (Int × Int)) (k v k' : Int) : aval (aset m k v) k' = if k = k' then v else aval m k' := by
  have app : ∀ (m : List (Int × Int)), (∀ p ∈ m, p.1 ≠ k) → aval (m ++ [(k, v)]) k' = if k = k' then v else aval m k' := by
    intro m
    induction m with
    | nil =>
      intro _
      simp only [aval, List.nil_append, aget]
      by_cases h : k = k' <;> simp [h]
    | cons p m ih =>
      intro h
      obtain ⟨a, b⟩ := p
      have h1 : a ≠ k := h (a, b) (List.mem_cons_self ..)
      have ih := ih fun p hp => h p (List.mem_cons_of_mem _ hp)
      simp only [aval, List.cons_append, aget] at ih ⊢
      by_cases h2 : a = k'
      · have : ¬ k = k' := fun e => h1 (h2.trans e.symm)
        simp [h2, this]
      · simp only [if_neg h2]
        cases e1 : aget (m ++ [(k, v)]) k' <;> cases e2 : aget m k' <;> simp only [e1, e2] at ih ⊢ <;> exact ih
  have rep : ∀ (m : List (Int × Int)) (j : Nat) (u : Int), aget m k = some (j, u) → aval (m.set j (k, v)) k' = if k = k' then v else aval m k' := by
    intro m
    induction m with
    | nil => intro j u h; simp [aget] at h
    | cons p m ih =>
      intro j u h
      obtain ⟨a, b⟩ := p
      simp only [aget] at h
      by_cases h1 : a = k
      · rw [if_pos h1] at h
        simp only [Option.some.injEq, Prod.mk.injEq] at h
        obtain ⟨rfl, rfl⟩ := h
        subst h1
        simp only [aval, List.set_cons_zero, aget]
        by_cases h2 : a = k' <;> simp [h2]
      · rw [if_neg h1] at h
        cases hq : aget m k with
        | none => rw [hq] at h; simp at h
        | some q =>
          rw [hq] at h
          simp only [Option.some.injEq, Prod.mk.injEq] at h
          obtain ⟨rfl, rfl⟩ := h
          have ih := ih q.1 q.2 hq
          simp only [aval, List.set_cons_succ, aget] at ih ⊢
          by_cases h2 : a = k'
          · have : ¬ k = k' := fun e => h1 (h2.trans e.symm)
            simp [h2, this]
          · simp only [if_neg h2]
            cases e1 : aget (m.set q.1 (k, v)) k' <;> cases e2 : aget m k' <;> simp only [e1, e2] at ih ⊢ <;> exact ih
  unfold aset
  rcases aget_spec (k := k) (m := m) with ⟨h1, h2⟩ | ⟨j, u, h1, h2⟩
  · rw [h1]; exact app m h2
  · rw [h1]; exact rep m j u h1

/-- The one height n of a set, if it has it. -/
def bitAt (x n : Int) : Int := bitOp .and .u64 x (2 ^ n.toNat)
def Tr.one (x : Tr) (p : Nat) (b : Int) : Tr := ⟨x.h, upd x.s p b⟩
def depKey (t : TD) (m : Int) (x : Tr) (n : Int) : Int := max0 (t.stand x.h m - n)
def depStep (t : TD) (m : Int) (p : Nat) (x : Tr) (n : Int) (M : List (Int × Int)) : List (Int × Int) :=
  if bitAt (x.s p) n = 0 then M else aset M (depKey t m x n) (aval M (depKey t m x n) + manyF (x.one p (bitAt (x.s p) n)) t.nS)
def depIn (t : TD) (m : Int) (p : Nat) (x : Tr) : Nat → List (Int × Int) → List (Int × Int)
  | 0, M => M
  | c + 1, M => depStep t m p x (t.slo p + c) (depIn t m p x c M)
/-- The numbers of truths by depth, of the first k of some. -/
def depOut (t : TD) (m : Int) (p : Nat) (g : List Tr) : Nat → List (Int × Int)
  | 0 => []
  | k + 1 => depIn t m p (g.getD k tr0) (t.shi p - t.slo p + 1).toNat (depOut t m p g k)

theorem bitAt_or (x : Nat) (n : Nat) (hx : x < 2 ^ 64) (hn : n < 64) : bitAt (x : Int) (n : Int) = if x.testBit n then ((2 ^ n : Nat) : Int) else 0 := by
  have hk2 : 2 ^ n < 2 ^ 64 := Nat.pow_lt_pow_right (by omega) hn
  have e2 : ((2 : Int) ^ (n : Int).toNat) = ((2 ^ n : Nat) : Int) := by rw [Int.toNat_natCast]; norm_cast
  have e3 : ((BitVec.ofInt IntKind.u64.bits (x : Int)) &&& (BitVec.ofInt IntKind.u64.bits ((2 : Int) ^ (n : Int).toNat))).toNat = x &&& 2 ^ n := by
    show ((BitVec.ofInt 64 (x : Int)) &&& (BitVec.ofInt 64 ((2 : Int) ^ (n : Int).toNat))).toNat = _
    rw [e2, BitVec.ofInt_natCast, BitVec.ofInt_natCast, BitVec.toNat_and, BitVec.toNat_ofNat, BitVec.toNat_ofNat, Nat.mod_eq_of_lt hx, Nat.mod_eq_of_lt hk2]
  show IntKind.u64.wrap _ = _
  have e4 : x &&& 2 ^ n = (x.testBit n).toNat * 2 ^ n := by
    apply Nat.eq_of_testBit_eq
    intro i
    rw [Nat.testBit_and, Nat.testBit_two_pow]
    cases h : x.testBit n with
    | true =>
      rw [Bool.toNat_true, Nat.one_mul, Nat.testBit_two_pow]
      by_cases hi : n = i
      · subst hi; simp [h]
      · simp [hi]
    | false =>
      rw [Bool.toNat_false, Nat.zero_mul, Nat.zero_testBit]
      by_cases hi : n = i
      · subst hi; simp [h]
      · simp [hi]
  rw [e3, e4]
  cases x.testBit n with
  | true =>
    simp only [Bool.toNat_true, Nat.one_mul, if_true]
    rw [wrap_in]
    show 0 ≤ ((2 ^ n : Nat) : Int) ∧ ((2 ^ n : Nat) : Int) ≤ (18446744073709551615 : Int)
    generalize 2 ^ n = z at hk2
    omega
  | false => simp [IntKind.wrap_u64]
theorem bitAt_or' {t : TD} {x : Tr} (hx : goodTr t x) (p : Nat) {n : Int} (h0 : 0 ≤ n) (h1 : n ≤ 60) : bitAt (x.s p) n = 0 ∨ bitAt (x.s p) n = ((2 ^ n.toNat : Nat) : Int) := by
  obtain ⟨a, ha⟩ := Int.eq_ofNat_of_zero_le (hx.2 p).1
  obtain ⟨k, hk⟩ := Int.eq_ofNat_of_zero_le h0
  have h2 := (hx.2 p).2
  rw [ha] at h2 ⊢
  subst hk
  have hx2 : a < 2 ^ 64 := by
    have : (a : Int) < ((2 ^ 61 : Nat) : Int) := by exact_mod_cast h2
    have h3 : (2 : Nat) ^ 61 ≤ 2 ^ 64 := Nat.pow_le_pow_right (by omega) (by omega)
    omega
  rw [bitAt_or a k hx2 (by omega), Int.toNat_natCast]
  split
  · exact .inr rfl
  · exact .inl rfl
theorem one_full {t : TD} {x : Tr} (hx : fullTr t x) (p : Nat) {n : Int} (h0 : 0 ≤ n) (h1 : n ≤ 60) (hb : bitAt (x.s p) n ≠ 0) : fullTr t (x.one p (bitAt (x.s p) n)) := by
  have hb' := (bitAt_or' hx.1 p h0 h1).resolve_left hb
  have hle : 2 ^ n.toNat ≤ 2 ^ 60 := Nat.pow_le_pow_right (by omega) (by omega)
  have hp : 0 < 2 ^ n.toNat := Nat.pow_pos (by omega)
  refine ⟨⟨hx.1.1, fun q => ?_⟩, fun q hq => ?_⟩
  · simp only [Tr.one, upd]
    split
    · rw [hb']
      have : (2 : Nat) ^ 60 < 2 ^ 61 := by decide
      have e : ((2 : Int) ^ 61) = ((2 ^ 61 : Nat) : Int) := by norm_cast
      rw [e]
      omega
    · exact hx.1.2 q
  · simp only [Tr.one, upd]
    split
    · exact ⟨n.toNat, 1, by omega, by omega, by omega, by rw [hb', Nat.one_mul]⟩
    · exact hx.2 q hq
/-- No number is too great. -/
def smallM (M : List (Int × Int)) (B : Int) : Prop := ∀ k, 0 ≤ aval M k ∧ aval M k ≤ B
theorem many_le {t : TD} (hv : t.Valid) {x : Tr} (hx : fullTr t x) : 1 ≤ manyF x t.nS ∧ manyF x t.nS ≤ 81 := by
  obtain ⟨m1, m2⟩ := manyF_range hx t.nS (Nat.le_refl _)
  have m3 : (3 : Int) ^ t.nS ≤ 3 ^ 4 := by
    have : (3 : Nat) ^ t.nS ≤ 3 ^ 4 := Nat.pow_le_pow_right (by omega) hv.2.1.2
    exact_mod_cast this
  have e81 : (3 : Int) ^ 4 = 81 := by decide
  omega
theorem depStep_small {t : TD} (hv : t.Valid) {m : Int} {p : Nat} {x : Tr} (hx : fullTr t x) {n : Int} (h0 : 0 ≤ n) (h1 : n ≤ 60) {M : List (Int × Int)} {B : Int} (hB : smallM M B) : smallM (depStep t m p x n M) (B + 81) := fun k => by
  have hk := hB k
  unfold depStep
  split
  · omega
  · rename_i hb
    have hm := many_le hv (one_full hx p h0 h1 hb)
    rw [aval_aset]
    have := hB (depKey t m x n)
    split <;> omega
theorem depIn_small {t : TD} (hv : t.Valid) {m : Int} {p : Nat} (hp : p < t.nS) {x : Tr} (hx : fullTr t x) {M : List (Int × Int)} {B : Int} (hB : smallM M B) : ∀ c : Nat, t.slo p + c ≤ t.shi p + 1 → smallM (depIn t m p x c M) (B + 81 * c)
  | 0, _ => fun k => by have := hB k; simp only [depIn]; omega
  | c + 1, hc => by
    have hs := hv.2.2.2.2.1 p hp
    simp only [TD.sandOk] at hs
    have ih := depIn_small hv hp hx hB (m := m) c (by omega)
    have := depStep_small hv (m := m) (p := p) hx (n := t.slo p + c) (by omega) (by omega) ih
    intro k
    have := this k
    simp only [depIn]
    push_cast
    omega
theorem depOut_small {t : TD} (hv : t.Valid) {m : Int} {p : Nat} (hp : p < t.nS) {g : List Tr} (hg : ∀ x ∈ g, fullTr t x) : ∀ k : Nat, k ≤ g.length → smallM (depOut t m p g k) (243 * k)
  | 0, _ => fun k => by simp [depOut, aval, aget]
  | k + 1, hk => by
    have hs := hv.2.2.2.2.1 p hp
    simp only [TD.sandOk] at hs
    have ih := depOut_small hv hp hg (m := m) k (by omega)
    have := depIn_small hv hp (hg _ (getD_mem (show k < g.length by omega))) ih (m := m) (t.shi p - t.slo p + 1).toNat (by omega)
    intro q
    have := this q
    simp only [depOut]
    push_cast
    omega

theorem manyF_congr {x y : Tr} : ∀ k : Nat, (∀ q, q < k → x.s q = y.s q) → manyF x k = manyF y k
  | 0, _ => rfl
  | k + 1, h => by rw [manyF, manyF, manyF_congr k fun q hq => h q (by omega), h k (by omega)]
/-- A truth with another set at one place, as the machine has it. -/
def Tr.own (x : Tr) (p : Nat) (b c : Int) : Tr := ⟨x.h, fun q => if q = (p : Int).toNat then b else [if 0 = p then c else x.s 0, if 1 = p then c else x.s 1, if 2 = p then c else x.s 2, if 3 = p then c else x.s 3].getD q 0⟩
theorem own_one (x : Tr) (p : Nat) (b c : Int) (q : Nat) (hq : q < 4) : (x.own p b c).s q = (x.one p b).s q := by
  simp only [Tr.own, Tr.one, upd]
  rw [Int.toNat_natCast]
  split
  · rfl
  · rename_i hqp
    have : q = 0 ∨ q = 1 ∨ q = 2 ∨ q = 3 := by omega
    rcases this with rfl | rfl | rfl | rfl <;> simp [hqp]
theorem own_full {t : TD} (hv : t.Valid) {x : Tr} (hx : fullTr t x) (p : Nat) (b c : Int) (h : fullTr t (x.one p b)) : fullTr t (x.own p b c) := by
  have hS := hv.2.1
  refine ⟨⟨hx.1.1, fun q => ?_⟩, fun q hq => ?_⟩
  · rcases Nat.lt_or_ge q 4 with h4 | h4
    · rw [own_one x p b c q h4]; exact h.1.2 q
    · simp only [Tr.own]
      split
      · have := h.1.2 p
        simpa [Tr.one, upd] using this
      · rw [List.getD_eq_getElem?_getD, List.getElem?_eq_none (by simpa using h4)]
        exact ⟨Int.le_refl _, by decide⟩
  · rw [own_one x p b c q (by omega)]; exact h.2 q hq
theorem t89 (t : TD) (hv : t.Valid) (g : List Tr) (hg : ∀ x ∈ g, fullTr t x) (hl : g.length ≤ 1000) (cp : Nat) (p : Nat) (m : Int) (hm : t.isMin m) (hp : p < t.nS) :
    CallP Tryz.prog 52 [.ptr 0 0, .slice 6 8 0 g.length cp, .int .i64 p, .int .i64 m] (B50 t g) (Ret (.map 8) (B50 t g ++ [some (.cmap (depOut t m p g g.length))])) := by
  have hS := hv.2.1
  have hs := hv.2.2.2.2.1 p hp
  simp only [TD.sandOk] at hs
  have ep : (p : Int).toNat = p := by omega
  refine callR (E := E) E_ok Tryz.func52 rfl ?_
  refine And.intro ?_ ?_
  · simp [AllP, under, gB, wB, inR_iff, IntKind.bits]
  refine And.intro ?_ ?_
  · simp [AllP, under, gB, wB, inR_iff, IntKind.bits]
  refine loopP E_ok [0, 1, 2, 3, 9, 10, 17, 18] (fun k : Nat => [(19, .int .i64 k)]) (fun k H => H.set 8 (some (.cmap (depOut t m p g k)))) (fun k => k ≤ g.length) (fun k => g.length - k) 0 (Nat.zero_le _) ?_ ?_
  · exact ent_tau [0, 1, 2, 3, 4, 5, 6, 7, 8] ⟨by (repeat' (first | exact trivial | exact rfl | exact fun _ _ => rfl | exact Or.inl rfl | refine And.intro ?_ ?_)), by (repeat' (first | exact trivial | exact rfl | exact congrArg (SV.int .i64) (Int.natCast_succ _).symm | refine And.intro ?_ ?_)), rfl⟩
  · intro k hk
    refine And.intro ?_ (And.intro (fun hn => ?_) (fun hn => ?_))
    · simp [AllP, under, gB, wB, inR_iff, IntKind.bits]
    · have hn' : k < g.length := by simpa using hn
      have ek : (0 + (k : Int).toNat) = k := by omega
      have hgk := hg _ (getD_mem hn')
      generalize hx : g.getD k tr0 = x at hgk
      refine And.intro ?_ ?_
      · simp [AllP, under, gB, wB, inR_iff, IntKind.bits]
        exact hn'
      rw [ek, hx]
      refine (t74 t hv x.h hgk.1.1 m hm).use [0, 1, 2, 3, 4, 5] ?_ (by (repeat' (first | exact trivial | exact rfl | exact fun _ _ => rfl | exact Or.inl rfl | refine And.intro ?_ ?_))) rfl
      refine And.intro ?_ ?_
      · simp [AllP, under, gB, wB, inR_iff, IntKind.bits]
        omega
      refine loopP E_ok [0, 1, 2, 3, 9, 10, 12, 13, 14, 17, 18, 19] (fun c : Nat × Int => [(15, .int .i64 (t.slo p + c.1))])
        (fun c H => (H.set 8 (some (.cmap (depIn t m p x c.1 (depOut t m p g k))))).set 10 (some (.cells [.int .i64 (x.h 0), .int .i64 (x.h 1), .int .i64 (x.h 2), .int .i64 (x.h 3), .int .u64 (if 0 = p then c.2 else x.s 0), .int .u64 (if 1 = p then c.2 else x.s 1), .int .u64 (if 2 = p then c.2 else x.s 2), .int .u64 (if 3 = p then c.2 else x.s 3)])))
        (fun c => t.slo p + c.1 ≤ t.shi p + 1) (fun c => (t.shi p + 1 - t.slo p - c.1).toNat) (0, x.s p) (by show t.slo p + ((0 : Nat) : Int) ≤ _; omega) ?_ ?_
      · refine ent_tau [0, 1, 2, 3, 4, 5, 6, 7, 8, 9, 10] ⟨?_, ?_, rfl⟩
        · (repeat' (first | exact trivial | exact rfl | exact fun _ _ => rfl | exact Or.inl rfl | refine And.intro ?_ ?_))
          have : p = 0 ∨ p = 1 ∨ p = 2 ∨ p = 3 := by omega
          rcases this with rfl | rfl | rfl | rfl <;> rfl
        · (repeat' (first | exact trivial | exact rfl | exact congrArg (SV.int .i64) (Int.natCast_succ _).symm | refine And.intro ?_ ?_))
          exact congrArg (SV.int .i64) (by rw [ep, Nat.zero_add]; simp)
      · rintro ⟨j, b⟩ hj
        have hj' : t.slo p + j ≤ t.shi p + 1 := hj
        refine And.intro ?_ (And.intro (fun hc => ?_) (fun hc => ?_))
        · simp [AllP, under, gB, wB, inR_iff, IntKind.bits]
          omega
        · have hc' : t.slo p + j ≤ t.shi p := by simpa [ep] using hc
          refine And.intro ?_ ?_
          · simp [AllP, under, gB, wB, inR_iff, IntKind.bits]
          refine drawP E_ok [9] pl52_11 (by kernel_rfl) ?_
          refine And.intro ?_ trivial
          refine And.intro ?_ ?_
          · have hin : InR .u64 (1 * 2 ^ (t.slo p + j).toNat) := by
              have h1 : 2 ^ (t.slo p + j).toNat ≤ 2 ^ 60 := Nat.pow_le_pow_right (by omega) (by omega)
              have e : (1 * 2 ^ (t.slo p + j).toNat : Int) = ((2 ^ (t.slo p + j).toNat : Nat) : Int) := by push_cast; omega
              rw [e]
              show 0 ≤ ((2 ^ (t.slo p + j).toNat : Nat) : Int) ∧ ((2 ^ (t.slo p + j).toNat : Nat) : Int) ≤ (18446744073709551615 : Int)
              generalize 2 ^ (t.slo p + (j : Int)).toNat = z at h1 ⊢
              omega
            exact ⟨by omega, by show (0 : Int) ≤ p; omega, by show (p : Int) < 4; omega, hin, by show 0 ≤ t.slo p + (j : Int); omega, by show t.slo p + (j : Int) < 64; omega, by show (p : Int).toNat < 4; omega, by show (0 : Int) ≤ p; omega, by show (p : Int) < 4; omega, trivial⟩
          refine And.intro ?_ ?_
          · exact rfl
          have eb : bitOp .and .u64 ([x.s 0, x.s 1, x.s 2, x.s 3].getD (p : Int).toNat 0) (1 * 2 ^ (t.slo p + ((j, b) : Nat × Int).fst).toNat) = bitAt (x.s p) (t.slo p + j) := by
            rw [s4_get x p (by omega), Int.one_mul]
            rfl
          rw [eb]
          refine And.intro ?_ (And.intro (fun hz => ?_) (fun hz => ?_))
          · simp [AllP, under, gB, wB, inR_iff, IntKind.bits]
            omega
          · rw [cell_at p (by omega)] at hz
            have hz' : bitAt (x.s p) (t.slo p + j) ≠ 0 := by simpa using hz
            refine And.intro trivial ?_
            have hfull := one_full hgk p (n := t.slo p + j) (by omega) (by omega) hz'
            have hown := own_full hv hgk p (bitAt (x.s p) (t.slo p + j)) b hfull
            have hmany : manyF (x.own p (bitAt (x.s p) (t.slo p + j)) b) t.nS = manyF (x.one p (bitAt (x.s p) (t.slo p + j))) t.nS := manyF_congr _ fun q hq => own_one x p _ b q (by omega)
            have hbd := many_le hv hfull
            have hw := stand_range hv hm hgk.1.1
            have hsm := depIn_small hv hp hgk (depOut_small hv hp hg (m := m) k (by omega)) (m := m) j (by omega) (depKey t m x (t.slo p + j))
            refine drawP E_ok [10] pl52_13 (by kernel_rfl) ?_
            refine And.intro ?_ (And.intro ?_ trivial)
            · refine And.intro ?_ (And.intro ?_ trivial)
              · simp [AllP, under, gB, wB, inR_iff, IntKind.bits]
                omega
              refine And.intro ?_ ?_
              · simp [AllP, under, gB, wB, inR_iff, IntKind.bits]
              refine (t80 t hv (x.own p (bitAt (x.s p) (t.slo p + j)) b) hown).use [] ?_ (by (repeat' (first | exact trivial | exact rfl | exact fun _ _ => rfl | exact Or.inl rfl | refine And.intro ?_ ?_))) rfl
              rw [hmany]
              refine And.intro (And.intro ?_ ?_) trivial
              · simp only [AllP, under, gB, wB, inR_iff, and_true, true_and, List.nil_append, Option.getD_none, true_implies, forall_const]
                simp only [depKey, max0] at hsm
                omega
              refine And.intro trivial ?_
              refine And.intro ?_ ?_
              · exact rfl
              refine And.intro ?_ ⟨(j + 1, bitAt (x.s p) (t.slo p + j)), by show t.slo p + ((j + 1 : Nat) : Int) ≤ _; omega, by show (t.shi p + 1 - t.slo p - ((j + 1 : Nat) : Int)).toNat < (t.shi p + 1 - t.slo p - (j : Int)).toNat; omega, ?_⟩
              · simp [AllP, under, gB, wB, inR_iff, IntKind.bits]
                omega
              · refine ent_tau [0, 1, 2, 3, 4, 5, 6, 7, 8, 9, 10] ⟨?_, ?_, rfl⟩
                · (repeat' (first | exact trivial | exact rfl | exact fun _ _ => rfl | exact Or.inl rfl | refine And.intro ?_ ?_))
                  · show aset (depIn t m p x j (depOut t m p g k)) (depKey t m x (t.slo p + j)) (aval (depIn t m p x j (depOut t m p g k)) (depKey t m x (t.slo p + j)) + manyF (x.one p (bitAt (x.s p) (t.slo p + j))) t.nS) = depIn t m p x (j + 1) (depOut t m p g k)
                    rw [depIn, depStep, if_neg hz']
                  · have : p = 0 ∨ p = 1 ∨ p = 2 ∨ p = 3 := by omega
                    rcases this with rfl | rfl | rfl | rfl <;> rfl
                · (repeat' (first | exact trivial | exact rfl | exact congrArg (SV.int .i64) (Int.natCast_succ _).symm | refine And.intro ?_ ?_))
                  exact congrArg (SV.int .i64) (by show t.slo p + (j : Int) + 1 = t.slo p + ((j + 1 : Nat) : Int); omega)
            · refine And.intro ?_ ?_
              · simp [AllP, under, gB, wB, inR_iff, IntKind.bits]
                omega
              refine (t80 t hv (x.own p (bitAt (x.s p) (t.slo p + j)) b) hown).use [] ?_ (by (repeat' (first | exact trivial | exact rfl | exact fun _ _ => rfl | exact Or.inl rfl | refine And.intro ?_ ?_))) rfl
              rw [hmany]
              refine And.intro (And.intro ?_ ?_) trivial
              · simp [AllP, under, gB, wB, inR_iff, IntKind.bits]
              refine And.intro (And.intro ?_ ?_) trivial
              · simp only [AllP, under, gB, wB, inR_iff, and_true, true_and, List.nil_append, Option.getD_none, true_implies, forall_const]
                simp only [depKey, max0] at hsm
                omega
              refine And.intro trivial ?_
              refine And.intro ?_ ?_
              · exact rfl
              refine And.intro ?_ ⟨(j + 1, bitAt (x.s p) (t.slo p + j)), by show t.slo p + ((j + 1 : Nat) : Int) ≤ _; omega, by show (t.shi p + 1 - t.slo p - ((j + 1 : Nat) : Int)).toNat < (t.shi p + 1 - t.slo p - (j : Int)).toNat; omega, ?_⟩
              · simp [AllP, under, gB, wB, inR_iff, IntKind.bits]
                omega
              · refine ent_tau [0, 1, 2, 3, 4, 5, 6, 7, 8, 9, 10] ⟨?_, ?_, rfl⟩
                · (repeat' (first | exact trivial | exact rfl | exact fun _ _ => rfl | exact Or.inl rfl | refine And.intro ?_ ?_))
                  · show aset (depIn t m p x j (depOut t m p g k)) (depKey t m x (t.slo p + j)) (aval (depIn t m p x j (depOut t m p g k)) (depKey t m x (t.slo p + j)) + manyF (x.one p (bitAt (x.s p) (t.slo p + j))) t.nS) = depIn t m p x (j + 1) (depOut t m p g k)
                    rw [depIn, depStep, if_neg hz']
                  · have : p = 0 ∨ p = 1 ∨ p = 2 ∨ p = 3 := by omega
                    rcases this with rfl | rfl | rfl | rfl <;> rfl
                · (repeat' (first | exact trivial | exact rfl | exact congrArg (SV.int .i64) (Int.natCast_succ _).symm | refine And.intro ?_ ?_))
                  exact congrArg (SV.int .i64) (by show t.slo p + (j : Int) + 1 = t.slo p + ((j + 1 : Nat) : Int); omega)
          · rw [cell_at p (by omega)] at hz
            have hz' : bitAt (x.s p) (t.slo p + j) = 0 := by simpa using hz
            refine And.intro ?_ ⟨(j + 1, bitAt (x.s p) (t.slo p + j)), by show t.slo p + ((j + 1 : Nat) : Int) ≤ _; omega, by show (t.shi p + 1 - t.slo p - ((j + 1 : Nat) : Int)).toNat < (t.shi p + 1 - t.slo p - (j : Int)).toNat; omega, ?_⟩
            · simp [AllP, under, gB, wB, inR_iff, IntKind.bits]
              omega
            · refine ent_tau [0, 1, 2, 3, 4, 5, 6, 7, 8, 9, 10] ⟨?_, ?_, rfl⟩
              · (repeat' (first | exact trivial | exact rfl | exact fun _ _ => rfl | exact Or.inl rfl | refine And.intro ?_ ?_))
                · show depIn t m p x j (depOut t m p g k) = depIn t m p x (j + 1) (depOut t m p g k)
                  rw [depIn, depStep, if_pos hz']
                · have : p = 0 ∨ p = 1 ∨ p = 2 ∨ p = 3 := by omega
                  rcases this with rfl | rfl | rfl | rfl <;> rfl
              · (repeat' (first | exact trivial | exact rfl | exact congrArg (SV.int .i64) (Int.natCast_succ _).symm | refine And.intro ?_ ?_))
                exact congrArg (SV.int .i64) (by show t.slo p + (j : Int) + 1 = t.slo p + ((j + 1 : Nat) : Int); omega)
        · have hc' : ¬ (t.slo p + j ≤ t.shi p) := by simpa [ep] using hc
          have ej : (t.shi p - t.slo p + 1).toNat = j := by omega
          refine And.intro ?_ ?_
          · simp [AllP, under, gB, wB, inR_iff, IntKind.bits]
          refine And.intro ?_ ⟨k + 1, hn', by omega, ?_⟩
          · simp [AllP, under, gB, wB, inR_iff, IntKind.bits]
            omega
          · refine ent_tau [0, 1, 2, 3, 4, 5, 6, 7, 8] ⟨?_, by (repeat' (first | exact trivial | exact rfl | exact congrArg (SV.int .i64) (Int.natCast_succ _).symm | refine And.intro ?_ ?_)), rfl⟩
            (repeat' (first | exact trivial | exact rfl | exact fun _ _ => rfl | exact Or.inl rfl | refine And.intro ?_ ?_))
            show depIn t m p x j (depOut t m p g k) = depIn t m p (g.getD k tr0) (t.shi p - t.slo p + 1).toNat (depOut t m p g k)
            rw [ej, hx]
    · have hkS : k = g.length := by
        have : ¬ (k < g.length) := by simpa using hn
        omega
      subst hkS
      refine And.intro ?_ ?_
      · simp [AllP, under, gB, wB, inR_iff, IntKind.bits]
      refine And.intro trivial ?_
      exact ent_tau [0, 1, 2, 3, 4, 5, 6, 7, 8] ⟨by (repeat' (first | exact trivial | exact rfl | exact fun _ _ => rfl | exact Or.inl rfl | refine And.intro ?_ ?_)), by (repeat' (first | exact trivial | exact rfl | exact congrArg (SV.int .i64) (Int.natCast_succ _).symm | refine And.intro ?_ ?_)), rfl⟩
end Go.Proofs.YtipbempkngfdbaaGreatDoor
