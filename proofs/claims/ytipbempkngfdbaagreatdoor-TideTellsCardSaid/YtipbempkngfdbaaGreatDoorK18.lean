/-
  Parts: B12, B20, B21, B4n.
-/
import Derived.Test.YtipbempkngfdbaaGreatDoorK17
import Derived.Test.YtipbempkngfdbaaGreatDoorK11
import Derived.Test.YtipbempkngfdbaaGreatDoorK15
set_option linter.unusedVariables false
/-
  Contracts: how many truths one of them stands for.
-/
namespace Go.Proofs.YtipbempkngfdbaaGreatDoor
open Go Go.Sy
set_option linter.unusedSimpArgs false
set_option maxRecDepth 100000
set_option maxHeartbeats 4000000
attribute [local irreducible] CallP CodeP Ent YieldP
set_option maxHeartbeats 800000

theorem t115 (a b : Int) (ha : 0 ≤ a ∧ a ≤ 1000) (hb : 0 ≤ b ∧ b ≤ 1000) : CallP Tryz.prog 94 [.slice 0 1 0 2 2] [some (.roa 1 2 (fun k => [.int .i64 ([a, b].getD k 0)]))] (Ret (.int .i64 (a * b)) [some (.roa 1 2 (fun k => [.int .i64 ([a, b].getD k 0)]))]) := by
  have hab := mul_bd (a := a) (b := b) (A := 1000) (B := 1000) (by omega) (by omega)
  refine callR (E := E) E_ok Tryz.func94 rfl ?_
  refine And.intro ?_ ?_
  · simp [AllP, under, gB, wB, inR_iff, IntKind.bits]
  refine loopP E_ok [0, 6, 7] (fun k : Nat => [(3, .int .i64 (match k with | 0 => 1 | 1 => a | _ => a * b)), (8, .int .i64 k)]) (fun _ H => H) (fun k => k ≤ 2) (fun k => 2 - k) 0 (Nat.zero_le _) ?_ ?_
  · exact ent_tau [0] ⟨by (repeat' (first | exact trivial | exact rfl | exact fun _ _ => rfl | exact Or.inl rfl | refine And.intro ?_ ?_)), by (repeat' (first | exact trivial | exact rfl | exact congrArg (SV.int .i64) (Int.natCast_succ _).symm | refine And.intro ?_ ?_)), rfl⟩
  · intro k hk
    have hk3 : k = 0 ∨ k = 1 ∨ k = 2 := by omega
    rcases hk3 with rfl | rfl | rfl
    · refine And.intro ?_ (And.intro (fun hn => ?_) (fun hn => ?_))
      · simp [AllP, under, gB, wB, inR_iff, IntKind.bits]
      · refine And.intro ?_ ⟨1, by omega, by omega, ?_⟩
        · simp [AllP, under, gB, wB, inR_iff, IntKind.bits]
          omega
        · refine ent_tau [0] ⟨by (repeat' (first | exact trivial | exact rfl | exact fun _ _ => rfl | exact Or.inl rfl | refine And.intro ?_ ?_)), ?_, rfl⟩
          (repeat' (first | exact trivial | exact rfl | exact congrArg (SV.int .i64) (Int.natCast_succ _).symm | refine And.intro ?_ ?_))
          exact congrArg (SV.int .i64) (by simp)
      · simp at hn
    · refine And.intro ?_ (And.intro (fun hn => ?_) (fun hn => ?_))
      · simp [AllP, under, gB, wB, inR_iff, IntKind.bits]
      · refine And.intro ?_ ⟨2, by omega, by omega, ?_⟩
        · simp [AllP, under, gB, wB, inR_iff, IntKind.bits]
          omega
        · refine ent_tau [0] ⟨by (repeat' (first | exact trivial | exact rfl | exact fun _ _ => rfl | exact Or.inl rfl | refine And.intro ?_ ?_)), ?_, rfl⟩
          (repeat' (first | exact trivial | exact rfl | exact congrArg (SV.int .i64) (Int.natCast_succ _).symm | refine And.intro ?_ ?_))
      · simp at hn
    · refine And.intro ?_ (And.intro (fun hn => ?_) (fun hn => ?_))
      · simp [AllP, under, gB, wB, inR_iff, IntKind.bits]
      · simp at hn
      · refine And.intro ?_ ?_
        · simp [AllP, under, gB, wB, inR_iff, IntKind.bits]
        refine And.intro trivial ?_
        exact ent_tau [0] ⟨by (repeat' (first | exact trivial | exact rfl | exact fun _ _ => rfl | exact Or.inl rfl | refine And.intro ?_ ?_)), by (repeat' (first | exact trivial | exact rfl | exact congrArg (SV.int .i64) (Int.natCast_succ _).symm | refine And.intro ?_ ?_)), rfl⟩
def manyF (x : Tr) : Nat → Int
  | 0 => 1
  | k + 1 => manyF x k * oc64 (x.s k)
theorem manyF_range {t : TD} {x : Tr} (hx : fullTr t x) : ∀ k, k ≤ t.nS → 1 ≤ manyF x k ∧ manyF x k ≤ 3 ^ k
  | 0, _ => by simp [manyF]
  | k + 1, hk => by
    obtain ⟨h1, h2⟩ := manyF_range hx k (by omega)
    obtain ⟨_, _, _, _, h3, h4⟩ := few_facts (hx.2 k (by omega))
    simp only [manyF, Int.pow_succ]
    refine ⟨?_, Int.mul_le_mul h2 h4 (by omega) (by omega)⟩
    have := Int.mul_le_mul h1 h3 (by decide) (by omega)
    simpa using this
theorem t80 (t : TD) (hv : t.Valid) (x : Tr) (hx : fullTr t x) : CallP Tryz.prog 62 [trv x, .int .i64 t.nS] [] (Ret (.int .i64 (manyF x t.nS)) []) := by
  have hS := hv.2.1
  refine callR (E := E) E_ok Tryz.func62 rfl ?_
  refine And.intro ?_ ?_
  · simp [AllP, under, gB, wB, inR_iff, IntKind.bits]
    omega
  refine loopP E_ok [2, 10, 11] (fun k : Nat => [(5, .int .i64 (manyF x k)), (12, .int .i64 k)]) (fun _ H => H) (fun k => k ≤ t.nS) (fun k => t.nS - k) 0 (Nat.zero_le _) ?_ ?_
  · exact ent_tau [0] ⟨by (repeat' (first | exact trivial | exact rfl | exact fun _ _ => rfl | exact Or.inl rfl | refine And.intro ?_ ?_)), by (repeat' (first | exact trivial | exact rfl | exact congrArg (SV.int .i64) (Int.natCast_succ _).symm | refine And.intro ?_ ?_)), rfl⟩
  · intro k hk
    refine And.intro ?_ (And.intro (fun hn => ?_) (fun hn => ?_))
    · simp [AllP, under, gB, wB, inR_iff, IntKind.bits]
    · have hn' : k < t.nS := by simpa using hn
      obtain ⟨m1, m2⟩ := manyF_range hx k (by omega)
      obtain ⟨_, _, _, _, f1, f2⟩ := few_facts (hx.2 k hn')
      have m3 : (3 : Int) ^ k ≤ 3 ^ 4 := by
        have : (3 : Nat) ^ k ≤ 3 ^ 4 := Nat.pow_le_pow_right (by omega) (by omega)
        exact_mod_cast this
      have e81 : (3 : Int) ^ 4 = 81 := by decide
      rw [e81] at m3
      refine And.intro ?_ ?_
      · simp [AllP, under, gB, wB, inR_iff, IntKind.bits]
        omega
      have ev : ([x.s 0, x.s 1, x.s 2, x.s 3] : List Int).getD (0 + (k : Int).toNat) 0 = x.s k := by
        rw [Nat.zero_add]
        exact s4_get x k (by omega)
      rw [ev]
      refine (t108 (x.s k)).use [] ?_ (by (repeat' (first | exact trivial | exact rfl | exact fun _ _ => rfl | exact Or.inl rfl | refine And.intro ?_ ?_))) rfl
      refine And.intro ?_ ?_
      · simp [AllP, under, gB, wB, inR_iff, IntKind.bits]
      refine (t115 (manyF x k) (oc64 (x.s k)) (by omega) (by omega)).use [1] ?_ (by (repeat' (first | exact trivial | exact rfl | exact fun _ _ => rfl | exact Or.inl rfl | refine And.intro ?_ ?_))) rfl
      refine And.intro ?_ ⟨k + 1, hn', by omega, ?_⟩
      · simp [AllP, under, gB, wB, inR_iff, IntKind.bits]
        omega
      · exact ent_tau [0] ⟨by (repeat' (first | exact trivial | exact rfl | exact fun _ _ => rfl | exact Or.inl rfl | refine And.intro ?_ ?_)), by (repeat' (first | exact trivial | exact rfl | exact congrArg (SV.int .i64) (Int.natCast_succ _).symm | refine And.intro ?_ ?_)), rfl⟩
    · have hkS : k = t.nS := by
        have : ¬ (k < t.nS) := by simpa using hn
        omega
      subst hkS
      refine And.intro ?_ ?_
      · simp [AllP, under, gB, wB, inR_iff, IntKind.bits]
      refine And.intro trivial ?_
      exact ent_tau [] ⟨by (repeat' (first | exact trivial | exact rfl | exact fun _ _ => rfl | exact Or.inl rfl | refine And.intro ?_ ?_)), by (repeat' (first | exact trivial | exact rfl | exact congrArg (SV.int .i64) (Int.natCast_succ _).symm | refine And.intro ?_ ?_)), rfl⟩
end Go.Proofs.YtipbempkngfdbaaGreatDoor
/-
  The iterator of all truths, with the loop that stops at the first one.
-/
namespace Go.Proofs.YtipbempkngfdbaaGreatDoor
open Go Go.Sy
set_option linter.unusedSimpArgs false
set_option maxRecDepth 100000
set_option maxHeartbeats 4000000
attribute [local irreducible] CallP CodeP Ent YieldP

/-- The record of the loop in tide.Clash; the answer lies in block i. -/
noncomputable def L61 (i : Nat) : SObj := .loopr [none, none, none, some (.ptr i 0), none, none, none, none, none, none, none, none, none, none, none, none, none, none, none, none, none, none, none] #[22] (asOf Tryz.f77) (bodyOf Tryz.f77) .ready none
noncomputable def L61d (i : Nat) : SObj := .loopr [none, none, none, some (.ptr i 0), none, none, none, none, none, none, none, none, none, none, none, none, none, none, none, none, none, none, none] #[22] (asOf Tryz.f77) (bodyOf Tryz.f77) .done (some .ret)
theorem y61 (x : Tr) : YieldP Tryz.prog 0 [trv x] [some (L61 1), some (.cells [.bool false])] (Ret (.bool false) [some (L61d 1), some (.cells [.bool true])]) := by
  refine YieldP.ent (roundP E_ok rfl rfl fun l => ?_)
  refine And.intro ?_ ?_
  · simp [AllP, under, gB, wB, inR_iff, IntKind.bits]
  refine ⟨_, _, ⟨rfl, rfl⟩, ?_⟩
  exact ent_tau [0, 1] ⟨by (repeat' (first | exact trivial | exact rfl | exact fun _ _ => rfl | exact Or.inl rfl | refine And.intro ?_ ?_)), by (repeat' (first | exact trivial | exact rfl | exact congrArg (SV.int .i64) (Int.natCast_succ _).symm | refine And.intro ?_ ?_)), rfl⟩
theorem catF_nil {f : Int → List Tr} {lo : Int} : ∀ {c : Nat}, catF f lo c = [] → ∀ {j : Nat}, j < c → f (lo + j) = []
  | 0, _, j, hj => by omega
  | c + 1, h, j, hj => by
    simp only [catF, List.append_eq_nil_iff] at h
    rcases Nat.lt_or_ge j c with h1 | h1
    · exact catF_nil h.1 h1
    · have : j = c := by omega
      subst this
      exact h.2
noncomputable def H104v (t : TD) : SHeap := [some (.roc [.osl t.bM 1 3 t.nM t.cM, .osl t.bS 2 2 t.nS t.cS, .osl t.bL 3 4 t.nL t.cL, .map 4]),
  some (.roa 3 t.nM (row3 t.mi t.mlo t.mhi)), some (.roa 2 t.nS (row2 t.slo t.shi)), some (.roa 4 t.nL (row4 t.lp t.lm t.llo t.lhi)), some (.memo 5 t.F []),
  some (.glob 0 [.int .i64 0, .int .i64 1, .int .i64 3, .int .i64 6, .int .i64 9, .int .i64 11, .int .i64 12]),
  some (.roc [.ptr 0 0]), some (.roc [.fn (.func 91) [] [.ptr 6 0, .ptr 7 0, .ptr 8 0, .ptr 9 0]]), some (.roc [.int .u64 (2 ^ t.nL - 1)]), some (.roc [.yld 10]), some (L61 11), some (.cells [.bool false])]
noncomputable def H104w (t : TD) : SHeap := [some (.roc [.osl t.bM 1 3 t.nM t.cM, .osl t.bS 2 2 t.nS t.cS, .osl t.bL 3 4 t.nL t.cL, .map 4]),
  some (.roa 3 t.nM (row3 t.mi t.mlo t.mhi)), some (.roa 2 t.nS (row2 t.slo t.shi)), some (.roa 4 t.nL (row4 t.lp t.lm t.llo t.lhi)), some (.memo 5 t.F []),
  some (.glob 0 [.int .i64 0, .int .i64 1, .int .i64 3, .int .i64 6, .int .i64 9, .int .i64 11, .int .i64 12]),
  some (.roc [.ptr 0 0]), some (.roc [.fn (.func 91) [] [.ptr 6 0, .ptr 7 0, .ptr 8 0, .ptr 9 0]]), some (.roc [.int .u64 (2 ^ t.nL - 1)]), some (.roc [.yld 10]), some (L61d 11), some (.cells [.bool true])]
theorem t104v (t : TD) (hv : t.Valid) : ∀ (r : Nat) (h : Nat → Int), r ≤ t.nM → okH h →
    (t.tls r h = [] → CallP Tryz.prog 91 [hgt h, .int .i64 ((t.nM - r : Nat)), .ptr 6 0, .ptr 7 0, .ptr 8 0, .ptr 9 0] (H104v t) (Ret (.bool true) (H104v t))) ∧
    (t.tls r h ≠ [] → CallP Tryz.prog 91 [hgt h, .int .i64 ((t.nM - r : Nat)), .ptr 6 0, .ptr 7 0, .ptr 8 0, .ptr 9 0] (H104v t) (Ret (.bool false) (H104w t))) := by
  intro r
  have hM := hv.1
  have hS := hv.2.1
  have hst : ∀ (h : Nat → Int), okH h → ∀ i, i < t.nL → 0 ≤ t.stand h (t.lm i) ∧ t.stand h (t.lm i) ≤ 60 := fun h hh i hi => stand_range hv (hv.2.2.2.2.2 i hi).2.1 hh
  induction r with
  | zero =>
    intro h hr hh
    refine ⟨fun he => ?_, fun he => ?_⟩
    · skip
      refine callR (E := E) E_ok Tryz.func91 rfl ?_
      refine And.intro ?_ (And.intro (fun hc => ?_) (fun hc => ?_))
      · simp [AllP, under, gB, wB, inR_iff, IntKind.bits]
      · simp at hc
      · refine And.intro ?_ ?_
        · simp [AllP, under, gB, wB, inR_iff, IntKind.bits]
        refine loopP E_ok [0, 1, 2, 3, 4, 5, 6, 11, 62, 63] (fun i : Nat => [(64, .int .i64 i)]) (fun i H => H.set 13 (some (.cells [.int .i64 (h 0), .int .i64 (h 1), .int .i64 (h 2), .int .i64 (h 3), .int .u64 (if 0 < i then t.set h 0 else 0), .int .u64 (if 1 < i then t.set h 1 else 0), .int .u64 (if 2 < i then t.set h 2 else 0), .int .u64 (if 3 < i then t.set h 3 else 0)])))
          (fun i => i ≤ t.nS ∧ ∀ j, j < i → t.set h j ≠ 0) (fun i => t.nS - i) 0 ⟨Nat.zero_le _, fun j hj => by omega⟩ ?_ ?_
        · exact ent_tau [0, 1, 2, 3, 4, 5, 6, 7, 8, 9, 10, 11, 12, 13] ⟨by (repeat' (first | exact trivial | exact rfl | exact fun _ _ => rfl | exact Or.inl rfl | refine And.intro ?_ ?_)), by (repeat' (first | exact trivial | exact rfl | exact congrArg (SV.int .i64) (Int.natCast_succ _).symm | refine And.intro ?_ ?_)), rfl⟩
        · rintro i ⟨hi, hall⟩
          refine And.intro ?_ (And.intro (fun hlt => ?_) (fun hlt => ?_))
          · simp [AllP, under, gB, wB, inR_iff, IntKind.bits]
          · have hlt' : i < t.nS := by simpa using hlt
            refine And.intro ?_ ?_
            · simp [AllP, under, gB, wB, inR_iff, IntKind.bits]
            refine (t106 t hv h hh (hst h hh) i hlt').use [0, 1, 2, 3, 4, 5] ?_ (by (repeat' (first | exact trivial | exact rfl | exact fun _ _ => rfl | exact Or.inl rfl | refine And.intro ?_ ?_))) rfl
            refine And.intro ?_ (And.intro (fun hz => ?_) (fun hz => ?_))
            · simp [AllP, under, gB, wB, inR_iff, IntKind.bits]
              omega
            · rw [cell_at i (by omega)] at hz
              have hz' : t.set h i = 0 := by simpa using hz
              have e0 : t.tls 0 h = [] := by
                have : ¬ allB (fun p => !decide (t.set h p = 0)) t.nS = true := fun hx => by
                  have := allB_iff.1 hx i hlt'
                  simp [hz'] at this
                simp only [TD.tls]
                rw [if_neg this]
              refine And.intro ?_ ?_
              · simp [AllP, under, gB, wB, inR_iff, IntKind.bits]
              refine And.intro trivial ?_
              exact ent_tau [0, 1, 2, 3, 4, 5, 6, 7, 8, 9, 10, 11] ⟨by (repeat' (first | exact trivial | exact rfl | exact fun _ _ => rfl | exact Or.inl rfl | refine And.intro ?_ ?_)), by (repeat' (first | exact trivial | exact rfl | exact congrArg (SV.int .i64) (Int.natCast_succ _).symm | refine And.intro ?_ ?_)), rfl⟩
            · rw [cell_at i (by omega)] at hz
              have hz' : ¬ t.set h i = 0 := by simpa using hz
              refine And.intro ?_ ⟨i + 1, ⟨hlt', fun j hj => ?_⟩, by omega, ?_⟩
              · simp [AllP, under, gB, wB, inR_iff, IntKind.bits]
                omega
              · rcases Nat.lt_or_ge j i with h1 | h1
                · exact hall j h1
                · have : j = i := by omega
                  subst this
                  exact hz'
              · refine ent_tau [0, 1, 2, 3, 4, 5, 6, 7, 8, 9, 10, 11, 12, 13] ⟨?_, by (repeat' (first | exact trivial | exact rfl | exact congrArg (SV.int .i64) (Int.natCast_succ _).symm | refine And.intro ?_ ?_)), rfl⟩
                (repeat' (first | exact trivial | exact rfl | exact fun _ _ => rfl | exact Or.inl rfl | refine And.intro ?_ ?_))
                have : i = 0 ∨ i = 1 ∨ i = 2 ∨ i = 3 := by omega
                rcases this with rfl | rfl | rfl | rfl <;> simp [renL, ren] <;> rfl
          · have hiL : i = t.nS := by
              have : ¬ (i < t.nS) := by simpa using hlt
              omega
            subst hiL
            have hall' : allB (fun p => !decide (t.set h p = 0)) t.nS = true := allB_iff.2 fun j hj => by simp [hall j hj]
            have e0 : t.tls 0 h = [t.tr h] := by
              simp only [TD.tls]
              rw [if_pos hall']
            rw [e0] at he
            cases he
    · skip
      refine callR (E := E) E_ok Tryz.func91 rfl ?_
      refine And.intro ?_ (And.intro (fun hc => ?_) (fun hc => ?_))
      · simp [AllP, under, gB, wB, inR_iff, IntKind.bits]
      · simp at hc
      · refine And.intro ?_ ?_
        · simp [AllP, under, gB, wB, inR_iff, IntKind.bits]
        refine loopP E_ok [0, 1, 2, 3, 4, 5, 6, 11, 62, 63] (fun i : Nat => [(64, .int .i64 i)]) (fun i H => H.set 13 (some (.cells [.int .i64 (h 0), .int .i64 (h 1), .int .i64 (h 2), .int .i64 (h 3), .int .u64 (if 0 < i then t.set h 0 else 0), .int .u64 (if 1 < i then t.set h 1 else 0), .int .u64 (if 2 < i then t.set h 2 else 0), .int .u64 (if 3 < i then t.set h 3 else 0)])))
          (fun i => i ≤ t.nS ∧ ∀ j, j < i → t.set h j ≠ 0) (fun i => t.nS - i) 0 ⟨Nat.zero_le _, fun j hj => by omega⟩ ?_ ?_
        · exact ent_tau [0, 1, 2, 3, 4, 5, 6, 7, 8, 9, 10, 11, 12, 13] ⟨by (repeat' (first | exact trivial | exact rfl | exact fun _ _ => rfl | exact Or.inl rfl | refine And.intro ?_ ?_)), by (repeat' (first | exact trivial | exact rfl | exact congrArg (SV.int .i64) (Int.natCast_succ _).symm | refine And.intro ?_ ?_)), rfl⟩
        · rintro i ⟨hi, hall⟩
          refine And.intro ?_ (And.intro (fun hlt => ?_) (fun hlt => ?_))
          · simp [AllP, under, gB, wB, inR_iff, IntKind.bits]
          · have hlt' : i < t.nS := by simpa using hlt
            refine And.intro ?_ ?_
            · simp [AllP, under, gB, wB, inR_iff, IntKind.bits]
            refine (t106 t hv h hh (hst h hh) i hlt').use [0, 1, 2, 3, 4, 5] ?_ (by (repeat' (first | exact trivial | exact rfl | exact fun _ _ => rfl | exact Or.inl rfl | refine And.intro ?_ ?_))) rfl
            refine And.intro ?_ (And.intro (fun hz => ?_) (fun hz => ?_))
            · simp [AllP, under, gB, wB, inR_iff, IntKind.bits]
              omega
            · rw [cell_at i (by omega)] at hz
              have hz' : t.set h i = 0 := by simpa using hz
              have e0 : t.tls 0 h = [] := by
                have : ¬ allB (fun p => !decide (t.set h p = 0)) t.nS = true := fun hx => by
                  have := allB_iff.1 hx i hlt'
                  simp [hz'] at this
                simp only [TD.tls]
                rw [if_neg this]
              exact absurd e0 he
            · rw [cell_at i (by omega)] at hz
              have hz' : ¬ t.set h i = 0 := by simpa using hz
              refine And.intro ?_ ⟨i + 1, ⟨hlt', fun j hj => ?_⟩, by omega, ?_⟩
              · simp [AllP, under, gB, wB, inR_iff, IntKind.bits]
                omega
              · rcases Nat.lt_or_ge j i with h1 | h1
                · exact hall j h1
                · have : j = i := by omega
                  subst this
                  exact hz'
              · refine ent_tau [0, 1, 2, 3, 4, 5, 6, 7, 8, 9, 10, 11, 12, 13] ⟨?_, by (repeat' (first | exact trivial | exact rfl | exact congrArg (SV.int .i64) (Int.natCast_succ _).symm | refine And.intro ?_ ?_)), rfl⟩
                (repeat' (first | exact trivial | exact rfl | exact fun _ _ => rfl | exact Or.inl rfl | refine And.intro ?_ ?_))
                have : i = 0 ∨ i = 1 ∨ i = 2 ∨ i = 3 := by omega
                rcases this with rfl | rfl | rfl | rfl <;> simp [renL, ren] <;> rfl
          · have hiL : i = t.nS := by
              have : ¬ (i < t.nS) := by simpa using hlt
              omega
            subst hiL
            have hall' : allB (fun p => !decide (t.set h p = 0)) t.nS = true := allB_iff.2 fun j hj => by simp [hall j hj]
            have e0 : t.tls 0 h = [t.tr h] := by
              simp only [TD.tls]
              rw [if_pos hall']
            refine And.intro ?_ ?_
            · simp [AllP, under, gB, wB, inR_iff, IntKind.bits]
            refine And.intro trivial ?_
            refine (y61 (t.tr h)).use [10, 11] ?_ (by (repeat' (first | exact trivial | exact rfl | exact fun _ _ => rfl | exact Or.inl rfl | refine And.intro ?_ ?_))) rfl
            refine And.intro ?_ ?_
            · simp [AllP, under, gB, wB, inR_iff, IntKind.bits]
            exact ent_tau [0, 1, 2, 3, 4, 5, 6, 7, 8, 9, 10, 11] ⟨by (repeat' (first | exact trivial | exact rfl | exact fun _ _ => rfl | exact Or.inl rfl | refine And.intro ?_ ?_)), by (repeat' (first | exact trivial | exact rfl | exact congrArg (SV.int .i64) (Int.natCast_succ _).symm | refine And.intro ?_ ?_)), rfl⟩
  | succ r ih =>
    intro h hr hh
    have hk4 : t.nM - (r + 1) < 4 := by omega
    have hkM : t.nM - (r + 1) < t.nM := by omega
    have hm := hv.marks hkM
    simp only [TD.markOk] at hm
    have hk1 : t.nM - (r + 1) + 1 = t.nM - r := by omega
    have htl : t.tls (r + 1) h = catF (fun n => t.tls r (upd h (t.nM - (r + 1)) n)) (t.mlo (t.nM - (r + 1))) (t.mhi (t.nM - (r + 1)) - t.mlo (t.nM - (r + 1)) + 1).toNat := rfl
    rw [htl]
    generalize hk : t.nM - (r + 1) = k at *
    have ek : (0 + (k : Int).toNat) = k := by omega
    refine ⟨fun he => ?_, fun he => ?_⟩
    · skip
      refine callR (E := E) E_ok Tryz.func91 rfl ?_
      refine And.intro ?_ (And.intro (fun hc => ?_) (fun hc => ?_))
      · simp [AllP, under, gB, wB, inR_iff, IntKind.bits]
      · refine And.intro ?_ ?_
        · simp [AllP, under, gB, wB, inR_iff, IntKind.bits]
          omega
        rw [ek]
        refine loopP E_ok [0, 1, 2, 3, 4, 5, 6, 9] (fun j : Nat => [(10, .int .i64 (t.mlo k + j))]) (fun _ H => H)
          (fun j => t.mlo k + j ≤ t.mhi k + 1 ∧ catF (fun n => t.tls r (upd h k n)) (t.mlo k) j = []) (fun j => (t.mhi k + 1 - t.mlo k - j).toNat) 0 ⟨by omega, rfl⟩ ?_ ?_
        · refine ent_tau [0, 1, 2, 3, 4, 5, 6, 7, 8, 9, 10, 11, 12] ⟨by (repeat' (first | exact trivial | exact rfl | exact fun _ _ => rfl | exact Or.inl rfl | refine And.intro ?_ ?_)), ?_, rfl⟩
          (repeat' (first | exact trivial | exact rfl | exact congrArg (SV.int .i64) (Int.natCast_succ _).symm | refine And.intro ?_ ?_))
          exact congrArg (SV.int .i64) (by simp)
        · rintro j ⟨hj, hprev⟩
          refine And.intro ?_ (And.intro (fun hn => ?_) (fun hn => ?_))
          · simp [AllP, under, gB, wB, inR_iff, IntKind.bits]
            omega
          · rw [ek] at hn
            have hn' : t.mlo k + j ≤ t.mhi k := by simpa using hn
            have hcat : catF (fun n => t.tls r (upd h k n)) (t.mlo k) (j + 1) = catF (fun n => t.tls r (upd h k n)) (t.mlo k) j ++ t.tls r (upd h k (t.mlo k + j)) := rfl
            have ihx := ih (upd h k (t.mlo k + j)) (by omega) (okH_upd hh (by omega))
            have e1 : ((t.nM - r : Nat) : Int) = (k : Int) + 1 := by omega
            rw [e1] at ihx
            refine And.intro ?_ ?_
            · simp [AllP, under, gB, wB, inR_iff, IntKind.bits]
            refine drawP E_ok [] pl91_6 (by kernel_rfl) ?_
            refine And.intro (And.intro ?_ ?_) trivial
            · simp [AllP, under, gB, wB, inR_iff, IntKind.bits]
              omega
            refine (t105 h k hk4 (t.mlo k + j)).use [] ?_ (by (repeat' (first | exact trivial | exact rfl | exact fun _ _ => rfl | exact Or.inl rfl | refine And.intro ?_ ?_))) rfl
            refine And.intro (And.intro ?_ ?_) trivial
            · simp [AllP, under, gB, wB, inR_iff, IntKind.bits]
            have hsub : t.tls r (upd h k (t.mlo k + j)) = [] := catF_nil he (by omega)
            refine (ihx.1 hsub).use [0, 1, 2, 3, 4, 5, 6, 7, 8, 9, 10, 11] ?_ (by (repeat' (first | exact trivial | exact rfl | exact fun _ _ => rfl | exact Or.inl rfl | refine And.intro ?_ ?_))) rfl
            refine And.intro ?_ (And.intro rfl ?_)
            · simp [AllP, under, gB, wB, inR_iff, IntKind.bits]
            refine And.intro ?_ (And.intro (fun hb => ?_) (fun hb => ?_))
            · simp [AllP, under, gB, wB, inR_iff, IntKind.bits]
            · simp at hb
            · refine And.intro ?_ ⟨j + 1, ⟨by omega, by rw [hcat, hprev, hsub]; rfl⟩, by omega, ?_⟩
              · simp [AllP, under, gB, wB, inR_iff, IntKind.bits]
                omega
              · refine ent_tau [0, 1, 2, 3, 4, 5, 6, 7, 8, 9, 10, 11, 12] ⟨by (repeat' (first | exact trivial | exact rfl | exact fun _ _ => rfl | exact Or.inl rfl | refine And.intro ?_ ?_)), ?_, rfl⟩
                (repeat' (first | exact trivial | exact rfl | exact congrArg (SV.int .i64) (Int.natCast_succ _).symm | refine And.intro ?_ ?_))
                exact congrArg (SV.int .i64) (by push_cast; omega)
          · rw [ek] at hn
            have hn' : ¬ (t.mlo k + j ≤ t.mhi k) := by simpa using hn
            have ej : (t.mhi k - t.mlo k + 1).toNat = j := by omega
            refine And.intro ?_ ?_
            · simp [AllP, under, gB, wB, inR_iff, IntKind.bits]
            refine And.intro trivial ?_
            exact ent_tau [0, 1, 2, 3, 4, 5, 6, 7, 8, 9, 10, 11] ⟨by (repeat' (first | exact trivial | exact rfl | exact fun _ _ => rfl | exact Or.inl rfl | refine And.intro ?_ ?_)), by (repeat' (first | exact trivial | exact rfl | exact congrArg (SV.int .i64) (Int.natCast_succ _).symm | refine And.intro ?_ ?_)), rfl⟩
      · simp at hc
        omega
    · skip
      refine callR (E := E) E_ok Tryz.func91 rfl ?_
      refine And.intro ?_ (And.intro (fun hc => ?_) (fun hc => ?_))
      · simp [AllP, under, gB, wB, inR_iff, IntKind.bits]
      · refine And.intro ?_ ?_
        · simp [AllP, under, gB, wB, inR_iff, IntKind.bits]
          omega
        rw [ek]
        refine loopP E_ok [0, 1, 2, 3, 4, 5, 6, 9] (fun j : Nat => [(10, .int .i64 (t.mlo k + j))]) (fun _ H => H)
          (fun j => t.mlo k + j ≤ t.mhi k + 1 ∧ catF (fun n => t.tls r (upd h k n)) (t.mlo k) j = []) (fun j => (t.mhi k + 1 - t.mlo k - j).toNat) 0 ⟨by omega, rfl⟩ ?_ ?_
        · refine ent_tau [0, 1, 2, 3, 4, 5, 6, 7, 8, 9, 10, 11, 12] ⟨by (repeat' (first | exact trivial | exact rfl | exact fun _ _ => rfl | exact Or.inl rfl | refine And.intro ?_ ?_)), ?_, rfl⟩
          (repeat' (first | exact trivial | exact rfl | exact congrArg (SV.int .i64) (Int.natCast_succ _).symm | refine And.intro ?_ ?_))
          exact congrArg (SV.int .i64) (by simp)
        · rintro j ⟨hj, hprev⟩
          refine And.intro ?_ (And.intro (fun hn => ?_) (fun hn => ?_))
          · simp [AllP, under, gB, wB, inR_iff, IntKind.bits]
            omega
          · rw [ek] at hn
            have hn' : t.mlo k + j ≤ t.mhi k := by simpa using hn
            have hcat : catF (fun n => t.tls r (upd h k n)) (t.mlo k) (j + 1) = catF (fun n => t.tls r (upd h k n)) (t.mlo k) j ++ t.tls r (upd h k (t.mlo k + j)) := rfl
            have ihx := ih (upd h k (t.mlo k + j)) (by omega) (okH_upd hh (by omega))
            have e1 : ((t.nM - r : Nat) : Int) = (k : Int) + 1 := by omega
            rw [e1] at ihx
            refine And.intro ?_ ?_
            · simp [AllP, under, gB, wB, inR_iff, IntKind.bits]
            refine drawP E_ok [] pl91_6 (by kernel_rfl) ?_
            refine And.intro (And.intro ?_ ?_) trivial
            · simp [AllP, under, gB, wB, inR_iff, IntKind.bits]
              omega
            refine (t105 h k hk4 (t.mlo k + j)).use [] ?_ (by (repeat' (first | exact trivial | exact rfl | exact fun _ _ => rfl | exact Or.inl rfl | refine And.intro ?_ ?_))) rfl
            refine And.intro (And.intro ?_ ?_) trivial
            · simp [AllP, under, gB, wB, inR_iff, IntKind.bits]
            by_cases hsub : t.tls r (upd h k (t.mlo k + j)) = []
            · skip
              refine (ihx.1 hsub).use [0, 1, 2, 3, 4, 5, 6, 7, 8, 9, 10, 11] ?_ (by (repeat' (first | exact trivial | exact rfl | exact fun _ _ => rfl | exact Or.inl rfl | refine And.intro ?_ ?_))) rfl
              refine And.intro ?_ (And.intro rfl ?_)
              · simp [AllP, under, gB, wB, inR_iff, IntKind.bits]
              refine And.intro ?_ (And.intro (fun hb => ?_) (fun hb => ?_))
              · simp [AllP, under, gB, wB, inR_iff, IntKind.bits]
              · simp at hb
              · refine And.intro ?_ ⟨j + 1, ⟨by omega, by rw [hcat, hprev, hsub]; rfl⟩, by omega, ?_⟩
                · simp [AllP, under, gB, wB, inR_iff, IntKind.bits]
                  omega
                · refine ent_tau [0, 1, 2, 3, 4, 5, 6, 7, 8, 9, 10, 11, 12] ⟨by (repeat' (first | exact trivial | exact rfl | exact fun _ _ => rfl | exact Or.inl rfl | refine And.intro ?_ ?_)), ?_, rfl⟩
                  (repeat' (first | exact trivial | exact rfl | exact congrArg (SV.int .i64) (Int.natCast_succ _).symm | refine And.intro ?_ ?_))
                  exact congrArg (SV.int .i64) (by push_cast; omega)
            · refine (ihx.2 hsub).use [0, 1, 2, 3, 4, 5, 6, 7, 8, 9, 10, 11] ?_ (by (repeat' (first | exact trivial | exact rfl | exact fun _ _ => rfl | exact Or.inl rfl | refine And.intro ?_ ?_))) rfl
              refine And.intro ?_ (And.intro rfl ?_)
              · simp [AllP, under, gB, wB, inR_iff, IntKind.bits]
              refine And.intro ?_ (And.intro (fun hb => ?_) (fun hb => ?_))
              · simp [AllP, under, gB, wB, inR_iff, IntKind.bits]
              · refine And.intro ?_ ?_
                · simp [AllP, under, gB, wB, inR_iff, IntKind.bits]
                refine And.intro trivial ?_
                exact ent_tau [0, 1, 2, 3, 4, 5, 6, 7, 8, 9, 10, 11] ⟨by (repeat' (first | exact trivial | exact rfl | exact fun _ _ => rfl | exact Or.inl rfl | refine And.intro ?_ ?_)), by (repeat' (first | exact trivial | exact rfl | exact congrArg (SV.int .i64) (Int.natCast_succ _).symm | refine And.intro ?_ ?_)), rfl⟩
              · simp at hb
          · rw [ek] at hn
            have hn' : ¬ (t.mlo k + j ≤ t.mhi k) := by simpa using hn
            have ej : (t.mhi k - t.mlo k + 1).toNat = j := by omega
            exact absurd (by rw [ej]; exact hprev) he
      · simp at hc
        omega

noncomputable def H103v (t : TD) : SHeap := [some (.roc [.osl t.bM 1 3 t.nM t.cM, .osl t.bS 2 2 t.nS t.cS, .osl t.bL 3 4 t.nL t.cL, .map 4]),
  some (.roa 3 t.nM (row3 t.mi t.mlo t.mhi)), some (.roa 2 t.nS (row2 t.slo t.shi)), some (.roa 4 t.nL (row4 t.lp t.lm t.llo t.lhi)), some (.memo 5 t.F []),
  some (.glob 0 [.int .i64 0, .int .i64 1, .int .i64 3, .int .i64 6, .int .i64 9, .int .i64 11, .int .i64 12]),
  some (.roc [.ptr 0 0]), some (.roc [.int .u64 (2 ^ t.nL - 1)]), some (L61 9), some (.cells [.bool false])]
noncomputable def H103w (t : TD) : SHeap := [some (.roc [.osl t.bM 1 3 t.nM t.cM, .osl t.bS 2 2 t.nS t.cS, .osl t.bL 3 4 t.nL t.cL, .map 4]),
  some (.roa 3 t.nM (row3 t.mi t.mlo t.mhi)), some (.roa 2 t.nS (row2 t.slo t.shi)), some (.roa 4 t.nL (row4 t.lp t.lm t.llo t.lhi)), some (.memo 5 t.F []),
  some (.glob 0 [.int .i64 0, .int .i64 1, .int .i64 3, .int .i64 6, .int .i64 9, .int .i64 11, .int .i64 12]),
  some (.roc [.ptr 0 0]), some (.roc [.int .u64 (2 ^ t.nL - 1)]), some (L61d 9), some (.cells [.bool true])]
theorem t103v (t : TD) (hv : t.Valid) (he : t.all = []) : CallP Tryz.prog 90 [.yld 8, .ptr 6 0, .ptr 7 0] (H103v t) (Ret (.tup []) (H103v t)) := by
  have h0 : okH (fun _ => 0) := fun i => ⟨Int.le_refl _, by show (0 : Int) ≤ 60; decide⟩
  have hc := (t104v t hv t.nM (fun _ => 0) (Nat.le_refl _) h0).1 he
  have e : ((t.nM - t.nM : Nat) : Int) = 0 := by simp
  rw [e] at hc
  refine callR (E := E) E_ok Tryz.func90 rfl ?_
  refine And.intro ?_ ?_
  · simp [AllP, under, gB, wB, inR_iff, IntKind.bits]
  refine (hc).use [0, 1, 2, 3, 4, 5, 6, 11, 7, 10, 8, 9] ?_ (by (repeat' (first | exact trivial | exact rfl | exact fun _ _ => rfl | exact Or.inl rfl | refine And.intro ?_ ?_))) rfl
  refine And.intro ?_ ?_
  · simp [AllP, under, gB, wB, inR_iff, IntKind.bits]
  exact ent_tau [0, 1, 2, 3, 4, 5, 6, 7, 8, 9] ⟨by (repeat' (first | exact trivial | exact rfl | exact fun _ _ => rfl | exact Or.inl rfl | refine And.intro ?_ ?_)), by (repeat' (first | exact trivial | exact rfl | exact congrArg (SV.int .i64) (Int.natCast_succ _).symm | refine And.intro ?_ ?_)), rfl⟩
theorem t103w (t : TD) (hv : t.Valid) (he : t.all ≠ []) : CallP Tryz.prog 90 [.yld 8, .ptr 6 0, .ptr 7 0] (H103v t) (Ret (.tup []) (H103w t)) := by
  have h0 : okH (fun _ => 0) := fun i => ⟨Int.le_refl _, by show (0 : Int) ≤ 60; decide⟩
  have hc := (t104v t hv t.nM (fun _ => 0) (Nat.le_refl _) h0).2 he
  have e : ((t.nM - t.nM : Nat) : Int) = 0 := by simp
  rw [e] at hc
  refine callR (E := E) E_ok Tryz.func90 rfl ?_
  refine And.intro ?_ ?_
  · simp [AllP, under, gB, wB, inR_iff, IntKind.bits]
  refine (hc).use [0, 1, 2, 3, 4, 5, 6, 11, 7, 10, 8, 9] ?_ (by (repeat' (first | exact trivial | exact rfl | exact fun _ _ => rfl | exact Or.inl rfl | refine And.intro ?_ ?_))) rfl
  refine And.intro ?_ ?_
  · simp [AllP, under, gB, wB, inR_iff, IntKind.bits]
  exact ent_tau [0, 1, 2, 3, 4, 5, 6, 7, 8, 9] ⟨by (repeat' (first | exact trivial | exact rfl | exact fun _ _ => rfl | exact Or.inl rfl | refine And.intro ?_ ?_)), by (repeat' (first | exact trivial | exact rfl | exact congrArg (SV.int .i64) (Int.natCast_succ _).symm | refine And.intro ?_ ?_)), rfl⟩
end Go.Proofs.YtipbempkngfdbaaGreatDoor
/-
  Contract: can some looks all be right?
-/
namespace Go.Proofs.YtipbempkngfdbaaGreatDoor
open Go Go.Sy
set_option linter.unusedSimpArgs false
set_option maxRecDepth 100000
set_option maxHeartbeats 4000000
attribute [local irreducible] CallP CodeP Ent YieldP

/-- The tide without the looks of a set. -/
def TD.sub (t : TD) (so : Int) : TD :=
  { t with nL := (keptL so t.nL).length, bL := true, cL := t.nL, lp := fun m => t.lp ((keptL so t.nL).getD m 0), lm := fun m => t.lm ((keptL so t.nL).getD m 0), llo := fun m => t.llo ((keptL so t.nL).getD m 0), lhi := fun m => t.lhi ((keptL so t.nL).getD m 0) }
theorem sub_valid {t : TD} (hv : t.Valid) (so : Int) : (t.sub so).Valid := by
  obtain ⟨h1, h2, h3, h4, h5, h6⟩ := hv
  refine ⟨h1, h2, Nat.le_trans (keptL_len so t.nL) h3, h4, h5, fun i hi => ?_⟩
  have hi' : i < (keptL so t.nL).length := hi
  have hm : (keptL so t.nL).getD i 0 ∈ keptL so t.nL := by
    rw [List.getD_eq_getElem?_getD, List.getElem?_eq_getElem hi']
    exact List.getElem_mem hi'
  exact h6 _ (keptL_lt so t.nL _ hm)
/-- Can the looks of a set all be right? -/
def TD.restOf (t : TD) (so : Int) : Int := bitOp .andNot .u64 (2 ^ t.nL - 1) so
open Classical in
noncomputable def TD.can (t : TD) (so : Int) : Bool := decide ((t.sub (t.restOf so)).all ≠ [])
noncomputable def H61 (t : TD) : SHeap := [some (.roc [.osl t.bM 1 3 t.nM t.cM, .osl t.bS 2 2 t.nS t.cS, .osl t.bL 3 4 t.nL t.cL, .map 4]),
  some (.roa 3 t.nM (row3 t.mi t.mlo t.mhi)), some (.roa 2 t.nS (row2 t.slo t.shi)), some (.roa 4 t.nL (row4 t.lp t.lm t.llo t.lhi)), some (.memo 5 t.F []),
  some (.glob 0 [.int .i64 0, .int .i64 1, .int .i64 3, .int .i64 6, .int .i64 9, .int .i64 11, .int .i64 12]), some (.roc [.ptr 0 0])]
theorem t61 (t : TD) (hv : t.Valid) (so : Int) : CallP Tryz.prog 77 [.int .u64 so, .ptr 6 0] (H61 t) (Ret (.bool (t.can so)) (H61 t)) := by
  have hL := hv.2.2.1
  have hs := sub_valid hv (t.restOf so)
  refine callM (E := E) E_ok Tryz.func77 rfl ?_
  refine And.intro ?_ ?_
  · simp [AllP, under, gB, wB, inR_iff, IntKind.bits]
  refine drawP E_ok [] pl77_2 (by kernel_rfl) ?_
  refine And.intro (And.intro ?_ ?_) trivial
  · simp [AllP, under, gB, wB, inR_iff, IntKind.bits]
  refine (t63 t hv).use [0, 1, 2, 3, 4, 5] ?_ (by (repeat' (first | exact trivial | exact rfl | exact fun _ _ => rfl | exact Or.inl rfl | refine And.intro ?_ ?_))) rfl
  refine And.intro (And.intro ?_ ?_) trivial
  · simp [AllP, under, gB, wB, inR_iff, IntKind.bits]
  refine (t62 t hL (t.restOf so) t.bL t.cL).use [3] ?_ (by (repeat' (first | exact trivial | exact rfl | exact fun _ _ => rfl | exact Or.inl rfl | refine And.intro ?_ ?_))) rfl
  refine And.intro ?_ trivial
  refine And.intro ?_ ?_
  · simp [AllP, under, gB, wB, inR_iff, IntKind.bits]
  refine And.intro ?_ ?_
  · exact rfl
  refine And.intro ?_ ?_
  · simp [AllP, under, gB, wB, inR_iff, IntKind.bits]
  refine (t63 (t.sub (t.restOf so)) hs).use [8, 1, 2, 9, 4, 5] ?_ (by (repeat' (first | exact trivial | exact rfl | exact fun _ _ => rfl | exact Or.inl rfl | refine And.intro ?_ ?_))) rfl
  refine And.intro ?_ ?_
  · simp [AllP, under, gB, wB, inR_iff, IntKind.bits]
  refine (t64 (2 ^ (t.sub (t.restOf so)).nL - 1)).use [8] ?_ (by (repeat' (first | exact trivial | exact rfl | exact fun _ _ => rfl | exact Or.inl rfl | refine And.intro ?_ ?_))) rfl
  refine And.intro ?_ ?_
  · simp [AllP, under, gB, wB, inR_iff, IntKind.bits]
  refine rangeP E_ok rfl rfl ?_
  by_cases he : (t.sub (t.restOf so)).all = []
  · refine (t103v (t.sub (t.restOf so)) hs he).use [8, 1, 2, 9, 4, 5, 10, 11, 13, 7] ?_ (by (repeat' (first | exact trivial | exact rfl | exact fun _ _ => rfl | exact Or.inl rfl | refine And.intro ?_ ?_))) rfl
    refine ⟨by decide, ?_⟩
    have e0 : t.can so = false := by simp [TD.can, he]
    refine And.intro ?_ ?_
    · simp [AllP, under, gB, wB, inR_iff, IntKind.bits]
    refine And.intro (fun o h => h) ?_
    refine And.intro ?_ ⟨_, _, ⟨rfl, rfl⟩, ?_⟩
    · simp [AllP, under, gB, wB, inR_iff, IntKind.bits]
    rw [e0]
    exact ent_tau [0, 1, 2, 3, 4, 5, 6] ⟨by (repeat' (first | exact trivial | exact rfl | exact fun _ _ => rfl | exact Or.inl rfl | refine And.intro ?_ ?_)), by (repeat' (first | exact trivial | exact rfl | exact congrArg (SV.int .i64) (Int.natCast_succ _).symm | refine And.intro ?_ ?_)), rfl⟩
  · refine (t103w (t.sub (t.restOf so)) hs he).use [8, 1, 2, 9, 4, 5, 10, 11, 13, 7] ?_ (by (repeat' (first | exact trivial | exact rfl | exact fun _ _ => rfl | exact Or.inl rfl | refine And.intro ?_ ?_))) rfl
    refine ⟨by decide, ?_⟩
    have e0 : t.can so = true := by simp [TD.can, he]
    refine codeP_ret ?_
    refine And.intro trivial ?_
    refine And.intro (fun o h => h) ?_
    refine And.intro ?_ ⟨_, _, ⟨rfl, rfl⟩, ?_⟩
    · simp [AllP, under, gB, wB, inR_iff, IntKind.bits]
    rw [e0]
    exact ent_tau [0, 1, 2, 3, 4, 5, 6] ⟨by (repeat' (first | exact trivial | exact rfl | exact fun _ _ => rfl | exact Or.inl rfl | refine And.intro ?_ ?_)), by (repeat' (first | exact trivial | exact rfl | exact congrArg (SV.int .i64) (Int.natCast_succ _).symm | refine And.intro ?_ ?_)), rfl⟩
end Go.Proofs.YtipbempkngfdbaaGreatDoor
/-
  Contracts: a tide is opened; the question has captured 0 variables.
-/
namespace Go.Proofs.YtipbempkngfdbaaGreatDoor
open Go Go.Sy
set_option linter.unusedSimpArgs false
set_option maxRecDepth 100000
set_option maxHeartbeats 4000000
attribute [local irreducible] CallP CodeP Ent YieldP
set_option maxHeartbeats 800000

noncomputable def B44_0 (t : TD) : SHeap := [some (.roa 3 t.nM (row3 t.mi t.mlo t.mhi)), some (.roa 2 t.nS (row2 t.slo t.shi)), some (.roa 4 t.nL (row4 t.lp t.lm t.llo t.lhi))]
theorem t44_0 (t : TD) (f : Nat) (hf : f = 76 ∨ f = 59) (b : Bool)
    (his : t.Valid → CallP Tryz.prog f [.ptr 0 0] (t.shore ++ []) (Ret (.bool b) (t.shore ++ []))) :
    CallP Tryz.prog 28 [t.A, .fn (.func f) [] []] (B44_0 t ) (K44 t b (B44_0 t ) 3 4) := by
  refine callK (E := E) E_ok Tryz.func28 rfl ?_
  refine And.intro ?_ ?_
  · simp [AllP, under, gB, wB, inR_iff, IntKind.bits]
  refine (t90 _ _ _).use [] ?_ (by (repeat' (first | exact trivial | exact rfl | exact fun _ _ => rfl | exact Or.inl rfl | refine And.intro ?_ ?_))) rfl
  refine And.intro ?_ ?_
  · simp [AllP, under, gB, wB, inR_iff, IntKind.bits]
  refine And.intro (fun h1 => ?_) (fun h1 => ?_)
  · refine (t90 _ _ _).use [] ?_ (by (repeat' (first | exact trivial | exact rfl | exact fun _ _ => rfl | exact Or.inl rfl | refine And.intro ?_ ?_))) rfl
    refine And.intro ?_ ?_
    · simp [AllP, under, gB, wB, inR_iff, IntKind.bits]
    refine must (fun hb => ?_) (fun hb => ?_)
    · -- the lists are as long as they may be
      have hb' : (2 ≤ t.nM ∧ t.nM ≤ 4) ∧ (1 ≤ t.nS ∧ t.nS ≤ 4) ∧ t.nL ≤ 6 := by
        simp [inB, gB, wB] at hb h1
        omega
      obtain ⟨hM, hS, hL⟩ := hb'
      refine And.intro ?_ ?_
      · simp [AllP, under, gB, wB, inR_iff, IntKind.bits]
      refine loopP E_ok [0, 1, 2, 5, 31, 32] (fun i : Nat => [(33, .int .i64 i)]) (fun _ H => H) (fun i => i ≤ t.nM ∧ ∀ j, j < i → t.markOk j) (fun i => t.nM - i) 0 ⟨Nat.zero_le _, fun j h => by omega⟩ ?_ ?_
      · exact ent_tau [0, 1, 2, 3] ⟨by (repeat' (first | exact trivial | exact rfl | exact fun _ _ => rfl | exact Or.inl rfl | refine And.intro ?_ ?_)), by (repeat' (first | exact trivial | exact rfl | exact congrArg (SV.int .i64) (Int.natCast_succ _).symm | refine And.intro ?_ ?_)), rfl⟩
      · rintro i ⟨hi, hall⟩
        refine And.intro ?_ (And.intro (fun hlt => ?_) (fun hlt => ?_))
        · simp [AllP, under, gB, wB, inR_iff, IntKind.bits]
        · have hlt' : i < t.nM := by simpa using hlt
          have ei : (0 + (i : Int).toNat) = i := by omega
          have ei' : (0 + ((i : Int) - 1).toNat) = i - 1 := by omega
          refine And.intro ?_ ?_
          · simp [AllP, under, gB, wB, inR_iff, IntKind.bits]
            omega
          rw [ei]
          refine drawQ E_ok [3, 4] pl28_6 (by kernel_rfl) ?_
          refine And.intro (And.intro ?_ ?_) trivial
          · simp [AllP, under, gB, wB, inR_iff, IntKind.bits]
          refine (t90 _ _ _).use [] ?_ (by (repeat' (first | exact trivial | exact rfl | exact fun _ _ => rfl | exact Or.inl rfl | refine And.intro ?_ ?_))) rfl
          refine And.intro (And.intro ?_ (And.intro (fun h2 => ?_) (fun h2 => ?_))) trivial
          · simp [AllP, under, gB, wB, inR_iff, IntKind.bits]
          · refine (t95 _ _).use [] ?_ (by (repeat' (first | exact trivial | exact rfl | exact fun _ _ => rfl | exact Or.inl rfl | refine And.intro ?_ ?_))) rfl
            refine And.intro (And.intro ?_ ?_) trivial
            · have hp := fun h => hall (i - 1) h
              simp only [TD.markOk] at hp
              simp [inB, gB, wB] at h2
              simp [AllP, under, gB, wB, inR_iff, IntKind.bits, ei', inB, hiB]
              omega
            · refine must (fun hb => ?_) (fun hb => ?_)
              · refine And.intro ?_ ?_
                · simp [AllP, under, gB, wB, inR_iff, IntKind.bits]
                refine And.intro ?_ ?_
                · exact rfl
                refine And.intro ?_ ⟨i + 1, ⟨hlt', fun j hj => ?_⟩, by omega, ?_⟩
                · simp [AllP, under, gB, wB, inR_iff, IntKind.bits]
                  omega
                · rcases Nat.lt_or_ge j i with hji | hji
                  · exact hall j hji
                  · have : j = i := by omega
                    subst this
                    rw [ei'] at hb
                    simp [inB, hiB, gB, wB] at h2 hb
                    simp only [TD.markOk]
                    omega
                · exact ent_tau [0, 1, 2, 3] ⟨by (repeat' (first | exact trivial | exact rfl | exact fun _ _ => rfl | exact Or.inl rfl | refine And.intro ?_ ?_)), by (repeat' (first | exact trivial | exact rfl | exact congrArg (SV.int .i64) (Int.natCast_succ _).symm | refine And.intro ?_ ?_)), rfl⟩
              · refine And.intro ?_ ?_
                · simp [AllP, under, gB, wB, inR_iff, IntKind.bits]
                refine And.intro ?_ ?_
                · exact rfl
                refine And.intro trivial ?_
                refine And.intro ?_ ⟨_, _, .inr (.inl ⟨fun hv => ?_, rfl, rfl⟩), ?_⟩
                · simp [AllP, under, gB, wB, inR_iff, IntKind.bits]
                · have hm := hv.2.2.2.1 i hlt'
                  simp only [TD.markOk] at hm
                  rw [ei'] at hb
                  simp [inB, hiB, gB, wB] at h2 hb
                  omega
                · exact ent_tau [0, 1, 2] ⟨by (repeat' (first | exact trivial | exact rfl | exact fun _ _ => rfl | exact Or.inl rfl | refine And.intro ?_ ?_)), by (repeat' (first | exact trivial | exact rfl | exact congrArg (SV.int .i64) (Int.natCast_succ _).symm | refine And.intro ?_ ?_)), rfl⟩
          · refine And.intro (And.intro ?_ ?_) trivial
            · simp [AllP, under, gB, wB, inR_iff, IntKind.bits]
              simpa [gB, wB] using h2
            · have h2' : inB (t.mi i) 0 240 = false := by simpa [gB, wB] using h2
              refine must (fun hb => ?_) (fun hb => ?_)
              · simp [h2'] at hb
              · refine And.intro ?_ ?_
                · simp [AllP, under, gB, wB, inR_iff, IntKind.bits]
                refine And.intro ?_ ?_
                · exact rfl
                refine And.intro trivial ?_
                refine And.intro ?_ ⟨_, _, .inr (.inl ⟨fun hv => ?_, rfl, rfl⟩), ?_⟩
                · simp [AllP, under, gB, wB, inR_iff, IntKind.bits]
                · have hm := hv.2.2.2.1 i hlt'
                  simp only [TD.markOk] at hm
                  simp [inB, gB, wB] at h2
                  omega
                · exact ent_tau [0, 1, 2] ⟨by (repeat' (first | exact trivial | exact rfl | exact fun _ _ => rfl | exact Or.inl rfl | refine And.intro ?_ ?_)), by (repeat' (first | exact trivial | exact rfl | exact congrArg (SV.int .i64) (Int.natCast_succ _).symm | refine And.intro ?_ ?_)), rfl⟩
        · have hiM : i = t.nM := by
            have : ¬ (i < t.nM) := by simpa using hlt
            omega
          subst hiM
          refine And.intro ?_ ?_
          · simp [AllP, under, gB, wB, inR_iff, IntKind.bits]
          refine And.intro trivial ?_
          refine ⟨t.F, ?_⟩
          refine And.intro ?_ ?_
          · simp [AllP, under, gB, wB, inR_iff, IntKind.bits]
          refine loopP E_ok [0, 1, 2, 5, 8, 71, 72] (fun i : Nat => [(73, .int .i64 i)]) (fun _ H => H) (fun i => i ≤ t.nS ∧ ∀ j, j < i → t.sandOk j) (fun i => t.nS - i) 0 ⟨Nat.zero_le _, fun j h => by omega⟩ ?_ ?_
          · exact ent_tau [0, 1, 2, 3, 4, 5] ⟨by (repeat' (first | exact trivial | exact rfl | exact fun _ _ => rfl | exact Or.inl rfl | refine And.intro ?_ ?_)), by (repeat' (first | exact trivial | exact rfl | exact congrArg (SV.int .i64) (Int.natCast_succ _).symm | refine And.intro ?_ ?_)), rfl⟩
          · rintro i ⟨hi, hsand⟩
            refine And.intro ?_ (And.intro (fun hlt2 => ?_) (fun hlt2 => ?_))
            · simp [AllP, under, gB, wB, inR_iff, IntKind.bits]
            · have hlt' : i < t.nS := by simpa using hlt2
              have ei : (0 + (i : Int).toNat) = i := by omega
              refine And.intro ?_ ?_
              · simp [AllP, under, gB, wB, inR_iff, IntKind.bits]
                omega
              rw [ei]
              refine (t95 _ _).use [] ?_ (by (repeat' (first | exact trivial | exact rfl | exact fun _ _ => rfl | exact Or.inl rfl | refine And.intro ?_ ?_))) rfl
              refine And.intro ?_ ?_
              · simp [AllP, under, gB, wB, inR_iff, IntKind.bits]
              refine must (fun hb => ?_) (fun hb => ?_)
              · refine And.intro ?_ ⟨i + 1, ⟨hlt', fun j hj => ?_⟩, by omega, ?_⟩
                · simp [AllP, under, gB, wB, inR_iff, IntKind.bits]
                  omega
                · rcases Nat.lt_or_ge j i with hji | hji
                  · exact hsand j hji
                  · have : j = i := by omega
                    subst this
                    simp [hiB] at hb
                    simp only [TD.sandOk]
                    omega
                · exact ent_tau [0, 1, 2, 3, 4, 5] ⟨by (repeat' (first | exact trivial | exact rfl | exact fun _ _ => rfl | exact Or.inl rfl | refine And.intro ?_ ?_)), by (repeat' (first | exact trivial | exact rfl | exact congrArg (SV.int .i64) (Int.natCast_succ _).symm | refine And.intro ?_ ?_)), rfl⟩
              · refine And.intro ?_ ?_
                · simp [AllP, under, gB, wB, inR_iff, IntKind.bits]
                refine And.intro ?_ ⟨_, _, .inr (.inl ⟨fun hv => ?_, rfl, rfl⟩), ?_⟩
                · simp [AllP, under, gB, wB, inR_iff, IntKind.bits]
                · have hm := hv.2.2.2.2.1 i hlt'
                  simp only [TD.sandOk] at hm
                  simp [hiB] at hb
                  omega
                · exact ent_tau [0, 1, 2] ⟨by (repeat' (first | exact trivial | exact rfl | exact fun _ _ => rfl | exact Or.inl rfl | refine And.intro ?_ ?_)), by (repeat' (first | exact trivial | exact rfl | exact congrArg (SV.int .i64) (Int.natCast_succ _).symm | refine And.intro ?_ ?_)), rfl⟩
            · have hiS : i = t.nS := by
                have : ¬ (i < t.nS) := by simpa using hlt2
                omega
              subst hiS
              refine And.intro ?_ ?_
              · simp [AllP, under, gB, wB, inR_iff, IntKind.bits]
              refine And.intro trivial ?_
              refine loopP E_ok [0, 1, 8, 83, 84] (fun i : Nat => [(85, .int .i64 i)]) (fun _ H => H) (fun i => i ≤ t.nL ∧ ∀ j, j < i → t.lookOk j) (fun i => t.nL - i) 0 ⟨Nat.zero_le _, fun j h => by omega⟩ ?_ ?_
              · exact ent_tau [0, 1, 2, 3, 4, 5] ⟨by (repeat' (first | exact trivial | exact rfl | exact fun _ _ => rfl | exact Or.inl rfl | refine And.intro ?_ ?_)), by (repeat' (first | exact trivial | exact rfl | exact congrArg (SV.int .i64) (Int.natCast_succ _).symm | refine And.intro ?_ ?_)), rfl⟩
              · rintro i ⟨hi, hlook⟩
                refine And.intro ?_ (And.intro (fun hlt3 => ?_) (fun hlt3 => ?_))
                · simp [AllP, under, gB, wB, inR_iff, IntKind.bits]
                · have hlt' : i < t.nL := by simpa using hlt3
                  have ei : (0 + (i : Int).toNat) = i := by omega
                  refine And.intro ?_ ?_
                  · simp [AllP, under, gB, wB, inR_iff, IntKind.bits]
                    omega
                  rw [ei]
                  refine (t46 t (by omega) (t.lp i)).use [5, 0, 1, 2, 4] ?_ (by (repeat' (first | exact trivial | exact rfl | exact fun _ _ => rfl | exact Or.inl rfl | refine And.intro ?_ ?_))) rfl
                  refine And.intro ?_ (And.intro (fun h6 => ?_) (fun h6 => ?_))
                  · simp [AllP, under, gB, wB, inR_iff, IntKind.bits]
                  · have h6' : inB (t.lp i) 0 (t.nS - 1) = true := by simpa [gB, wB] using h6
                    refine (t57 t (by omega) (by omega) (t.lm i)).use [5, 0, 1, 2, 4] ?_ (by (repeat' (first | exact trivial | exact rfl | exact fun _ _ => rfl | exact Or.inl rfl | refine And.intro ?_ ?_))) rfl
                    refine And.intro ?_ (And.intro (fun h7 => ?_) (fun h7 => ?_))
                    · simp [AllP, under, gB, wB, inR_iff, IntKind.bits]
                    · have h7' : inB (t.lm i) (t.mi 0) (t.mi (t.nM - 1)) = true := by simpa [gB, wB, h6'] using h7
                      refine (t96 _ _).use [] ?_ (by (repeat' (first | exact trivial | exact rfl | exact fun _ _ => rfl | exact Or.inl rfl | refine And.intro ?_ ?_))) rfl
                      refine And.intro ?_ ?_
                      · simp [AllP, under, gB, wB, inR_iff, IntKind.bits]
                      refine must (fun hb => ?_) (fun hb => ?_)
                      · refine And.intro ?_ ⟨i + 1, ⟨hlt', fun j hj => ?_⟩, by omega, ?_⟩
                        · simp [AllP, under, gB, wB, inR_iff, IntKind.bits]
                          omega
                        · rcases Nat.lt_or_ge j i with hji | hji
                          · exact hlook j hji
                          · have : j = i := by omega
                            subst this
                            simp [inB, hiB, gB, wB] at hb h6' h7'
                            simp only [TD.lookOk]
                            omega
                        · exact ent_tau [0, 1, 2, 3, 4, 5] ⟨by (repeat' (first | exact trivial | exact rfl | exact fun _ _ => rfl | exact Or.inl rfl | refine And.intro ?_ ?_)), by (repeat' (first | exact trivial | exact rfl | exact congrArg (SV.int .i64) (Int.natCast_succ _).symm | refine And.intro ?_ ?_)), rfl⟩
                      · refine And.intro ?_ ?_
                        · simp [AllP, under, gB, wB, inR_iff, IntKind.bits]
                        refine And.intro ?_ ⟨_, _, .inr (.inl ⟨fun hv => ?_, rfl, rfl⟩), ?_⟩
                        · simp [AllP, under, gB, wB, inR_iff, IntKind.bits]
                        · have hm := hv.2.2.2.2.2 i hlt'
                          simp only [TD.lookOk] at hm
                          simp [inB, hiB, gB, wB, h6', h7'] at hb h6' h7'
                          omega
                        · exact ent_tau [0, 1, 2] ⟨by (repeat' (first | exact trivial | exact rfl | exact fun _ _ => rfl | exact Or.inl rfl | refine And.intro ?_ ?_)), by (repeat' (first | exact trivial | exact rfl | exact congrArg (SV.int .i64) (Int.natCast_succ _).symm | refine And.intro ?_ ?_)), rfl⟩
                    · have h7' : inB (t.lm i) (t.mi 0) (t.mi (t.nM - 1)) = false := by simpa [gB, wB, h6'] using h7
                      refine And.intro ?_ ?_
                      · simp [AllP, under, gB, wB, inR_iff, IntKind.bits]
                        simp [h6', h7']
                      refine must (fun hb => ?_) (fun hb => ?_)
                      · simp [h6', h7'] at hb
                      · refine And.intro ?_ ?_
                        · simp [AllP, under, gB, wB, inR_iff, IntKind.bits]
                        refine And.intro ?_ ⟨_, _, .inr (.inl ⟨fun hv => ?_, rfl, rfl⟩), ?_⟩
                        · simp [AllP, under, gB, wB, inR_iff, IntKind.bits]
                        · have hm := hv.2.2.2.2.2 i hlt'
                          simp only [TD.lookOk] at hm
                          simp [inB, hiB, gB, wB] at h6' h7'
                          omega
                        · exact ent_tau [0, 1, 2] ⟨by (repeat' (first | exact trivial | exact rfl | exact fun _ _ => rfl | exact Or.inl rfl | refine And.intro ?_ ?_)), by (repeat' (first | exact trivial | exact rfl | exact congrArg (SV.int .i64) (Int.natCast_succ _).symm | refine And.intro ?_ ?_)), rfl⟩
                  · have h6' : inB (t.lp i) 0 (t.nS - 1) = false := by simpa [gB, wB] using h6
                    refine And.intro ?_ (And.intro (fun h7 => ?_) (fun h7 => ?_))
                    · simp [AllP, under, gB, wB, inR_iff, IntKind.bits]
                      exact h6'
                    · simp [gB, wB, h6'] at h7
                    · refine And.intro ?_ ?_
                      · simp [AllP, under, gB, wB, inR_iff, IntKind.bits]
                      refine must (fun hb => ?_) (fun hb => ?_)
                      · simp [h6'] at hb
                      · refine And.intro ?_ ?_
                        · simp [AllP, under, gB, wB, inR_iff, IntKind.bits]
                        refine And.intro ?_ ⟨_, _, .inr (.inl ⟨fun hv => ?_, rfl, rfl⟩), ?_⟩
                        · simp [AllP, under, gB, wB, inR_iff, IntKind.bits]
                        · have hm := hv.2.2.2.2.2 i hlt'
                          simp only [TD.lookOk] at hm
                          simp [inB, hiB, gB, wB] at h6'
                          omega
                        · exact ent_tau [0, 1, 2] ⟨by (repeat' (first | exact trivial | exact rfl | exact fun _ _ => rfl | exact Or.inl rfl | refine And.intro ?_ ?_)), by (repeat' (first | exact trivial | exact rfl | exact congrArg (SV.int .i64) (Int.natCast_succ _).symm | refine And.intro ?_ ?_)), rfl⟩
                · have hiL : i = t.nL := by
                    have : ¬ (i < t.nL) := by simpa using hlt3
                    omega
                  subst hiL
                  have hv : t.Valid := ⟨hM, hS, hL, hall, hsand, hlook⟩
                  refine And.intro ?_ ?_
                  · simp [AllP, under, gB, wB, inR_iff, IntKind.bits]
                  rcases hf with rfl | rfl
                  · refine And.intro ?_ ?_
                    · simp [AllP, under, gB, wB, inR_iff, IntKind.bits]
                    refine (his hv).use [5, 0, 1, 2, 4] ?_ (by (repeat' (first | exact trivial | exact rfl | exact fun _ _ => rfl | exact Or.inl rfl | refine And.intro ?_ ?_))) rfl
                    refine And.intro ?_ ?_
                    · simp [AllP, under, gB, wB, inR_iff, IntKind.bits]
                    refine must (fun hb => ?_) (fun hb => ?_)
                    · refine And.intro ?_ ⟨_, _, .inl ⟨hv, hb, rfl, rfl⟩, ?_⟩
                      · simp [AllP, under, gB, wB, inR_iff, IntKind.bits]
                      exact ent_tau [0, 1, 2, 5, 4] ⟨by (repeat' (first | exact trivial | exact rfl | exact fun _ _ => rfl | exact Or.inl rfl | refine And.intro ?_ ?_)), by (repeat' (first | exact trivial | exact rfl | exact congrArg (SV.int .i64) (Int.natCast_succ _).symm | refine And.intro ?_ ?_)), rfl⟩
                    · refine And.intro ?_ ⟨_, _, .inr (.inr ⟨hv, hb, rfl, rfl⟩), ?_⟩
                      · simp [AllP, under, gB, wB, inR_iff, IntKind.bits]
                      exact ent_tau [0, 1, 2] ⟨by (repeat' (first | exact trivial | exact rfl | exact fun _ _ => rfl | exact Or.inl rfl | refine And.intro ?_ ?_)), by (repeat' (first | exact trivial | exact rfl | exact congrArg (SV.int .i64) (Int.natCast_succ _).symm | refine And.intro ?_ ?_)), rfl⟩
                  · refine And.intro ?_ ?_
                    · simp [AllP, under, gB, wB, inR_iff, IntKind.bits]
                    refine (his hv).use [5, 0, 1, 2, 4] ?_ (by (repeat' (first | exact trivial | exact rfl | exact fun _ _ => rfl | exact Or.inl rfl | refine And.intro ?_ ?_))) rfl
                    refine And.intro ?_ ?_
                    · simp [AllP, under, gB, wB, inR_iff, IntKind.bits]
                    refine must (fun hb => ?_) (fun hb => ?_)
                    · refine And.intro ?_ ⟨_, _, .inl ⟨hv, hb, rfl, rfl⟩, ?_⟩
                      · simp [AllP, under, gB, wB, inR_iff, IntKind.bits]
                      exact ent_tau [0, 1, 2, 5, 4] ⟨by (repeat' (first | exact trivial | exact rfl | exact fun _ _ => rfl | exact Or.inl rfl | refine And.intro ?_ ?_)), by (repeat' (first | exact trivial | exact rfl | exact congrArg (SV.int .i64) (Int.natCast_succ _).symm | refine And.intro ?_ ?_)), rfl⟩
                    · refine And.intro ?_ ⟨_, _, .inr (.inr ⟨hv, hb, rfl, rfl⟩), ?_⟩
                      · simp [AllP, under, gB, wB, inR_iff, IntKind.bits]
                      exact ent_tau [0, 1, 2] ⟨by (repeat' (first | exact trivial | exact rfl | exact fun _ _ => rfl | exact Or.inl rfl | refine And.intro ?_ ?_)), by (repeat' (first | exact trivial | exact rfl | exact congrArg (SV.int .i64) (Int.natCast_succ _).symm | refine And.intro ?_ ?_)), rfl⟩
    · refine And.intro ?_ ⟨_, _, .inr (.inl ⟨fun hv => ?_, rfl, rfl⟩), ?_⟩
      · simp [AllP, under, gB, wB, inR_iff, IntKind.bits]
      · have h3 := hv.1
        have h4 := hv.2.1
        have h5 := hv.2.2.1
        simp [inB, gB, wB] at hb h1
        omega
      · exact ent_tau [0, 1, 2] ⟨by (repeat' (first | exact trivial | exact rfl | exact fun _ _ => rfl | exact Or.inl rfl | refine And.intro ?_ ?_)), by (repeat' (first | exact trivial | exact rfl | exact congrArg (SV.int .i64) (Int.natCast_succ _).symm | refine And.intro ?_ ?_)), rfl⟩
  · have h1' : inB (t.nM : Int) 2 4 = false := by simpa [gB, wB] using h1
    refine And.intro ?_ ?_
    · simp [AllP, under, gB, wB, inR_iff, IntKind.bits]
      exact h1'
    refine must (fun hb => ?_) (fun hb => ?_)
    · simp [h1'] at hb
    · refine And.intro ?_ ⟨_, _, .inr (.inl ⟨fun hv => ?_, rfl, rfl⟩), ?_⟩
      · simp [AllP, under, gB, wB, inR_iff, IntKind.bits]
      · have h3 := hv.1
        simp [inB, gB, wB] at h1
        omega
      · exact ent_tau [0, 1, 2] ⟨by (repeat' (first | exact trivial | exact rfl | exact fun _ _ => rfl | exact Or.inl rfl | refine And.intro ?_ ?_)), by (repeat' (first | exact trivial | exact rfl | exact congrArg (SV.int .i64) (Int.natCast_succ _).symm | refine And.intro ?_ ?_)), rfl⟩
end Go.Proofs.YtipbempkngfdbaaGreatDoor
