/-
  Parts: B4, B4b, B6.
-/
import Derived.Test.YtipbempkngfdbaaDoorK15
import Derived.Test.YtipbempkngfdbaaDoorK10
import Derived.Test.YtipbempkngfdbaaDoorK1
set_option linter.unusedVariables false
/-
  Contracts: a tide is opened.
-/
namespace Go.Proofs.YtipbempkngfdbaaDoor
open Go Go.Sy
set_option linter.unusedSimpArgs false
set_option maxRecDepth 100000
set_option maxHeartbeats 4000000
attribute [local irreducible] CallP CodeP Ent YieldP
set_option maxHeartbeats 800000

theorem must {b : Bool} {e : Int} {H : SHeap} {K : CE → SHeap → Prop} (h1 : b = true → fcH H fun H => K (.ret (.tup [])) H) (h2 : b = false → fcH H fun H => K (.panic (.iface 121 (.agg [.int .i64 e]))) H) :
    CallP Tryd.prog 65 [.bool b, .int .i64 e] H K := by
  cases b with
  | true =>
    refine CallP.frame (t65_true e) [] trivial (apartB_ok rfl) rfl ?_
    rintro ce h' ⟨rfl, rfl⟩
    have := h1 rfl
    rw [fcH_eq] at this
    exact ⟨ownB_ok rfl, by simpa [updH, putH, newH, renC, ren, renL] using this⟩
  | false =>
    refine CallP.frame (t65_false e) [] trivial (apartB_ok rfl) rfl ?_
    rintro ce h' ⟨rfl, rfl⟩
    have := h2 rfl
    rw [fcH_eq] at this
    exact ⟨ownB_ok rfl, by simpa [updH, putH, newH, renC, ren, renL] using this⟩
theorem t95 (lo hi : Int) : CallP Tryd.prog 95 [.agg [.int .i64 lo, .int .i64 hi]] [] (Ret (.bool (hiB lo hi && decide (hi - lo ≤ 2))) []) := by
  refine callR (E := E) E_ok Tryd.func95 rfl ?_
  refine And.intro ?_ ?_
  · simp [AllP, under, gB, wB, inR_iff, IntKind.bits]
  refine (t96 lo hi).use [] ?_ (by (repeat' (first | exact trivial | exact rfl | exact fun _ _ => rfl | exact Or.inl rfl | refine And.intro ?_ ?_))) rfl
  refine And.intro ?_ ?_
  · simp [AllP, under, gB, wB, inR_iff, hiB]
    omega
  refine ent_tau [] ⟨by (repeat' (first | exact trivial | exact rfl | exact fun _ _ => rfl | exact Or.inl rfl | refine And.intro ?_ ?_)), ⟨rfl, ?_, trivial⟩, rfl⟩
  refine congrArg SV.bool ?_
  cases hiB lo hi <;> rfl
/-- What comes of it. -/
def K44 (t : TD) (b : Bool) (base : SHeap) (i j : Nat) : CE → SHeap → Prop := fun ce h' =>
  (t.Valid ∧ b = true ∧ ce = .ret (.ptr i 0) ∧ h' = base ++ [some (.cells [.osl t.bM 0 3 t.nM t.cM, .osl t.bS 1 2 t.nS t.cS, .osl t.bL 2 4 t.nL t.cL, .map j]), some (.memo 5 t.F [])]) ∨
  (¬ t.Valid ∧ ce = .panic (.iface 121 (.agg [.int .i64 1])) ∧ h' = base) ∨ (t.Valid ∧ b = false ∧ ce = .panic (.iface 121 (.agg [.int .i64 2])) ∧ h' = base)

noncomputable def B44_1 (t : TD) (c0 : Int) : SHeap := [some (.roa 3 t.nM (row3 t.mi t.mlo t.mhi)), some (.roa 2 t.nS (row2 t.slo t.shi)), some (.roa 4 t.nL (row4 t.lp t.lm t.llo t.lhi)), some (.roc [.int .i64 c0])]
theorem t44_1 (t : TD) (c0 : Int) (f : Nat) (hf : f = 71 ∨ f = 84 ∨ f = 94) (b : Bool)
    (his : t.Valid → CallP Tryd.prog f [.ptr 0 0, .ptr 5 0] (t.shore ++ [some (.roc [.int .i64 c0])]) (Ret (.bool b) (t.shore ++ [some (.roc [.int .i64 c0])]))) :
    CallP Tryd.prog 44 [t.A, .fn (.func f) [] [.ptr 3 0]] (B44_1 t c0) (K44 t b (B44_1 t c0) 4 5) := by
  refine callK (E := E) E_ok Tryd.func44 rfl ?_
  refine And.intro ?_ ?_
  · simp [AllP, under, gB, wB, inR_iff, IntKind.bits]
  refine (t90 _ _ _).use [] ?_ (by (repeat' (first | exact trivial | exact rfl | exact fun _ _ => rfl | exact Or.inl rfl | refine And.intro ?_ ?_))) rfl
  refine And.intro ?_ ?_
  · simp [AllP, under, gB, wB, inR_iff, IntKind.bits]
  refine And.intro (fun h1 => ?_) (fun h1 => ?_)
  · refine (t90 _ _ _).use [] ?_ (by (repeat' (first | exact trivial | exact rfl | exact fun _ _ => rfl | exact Or.inl rfl | refine And.intro ?_ ?_))) rfl
    refine And.intro ?_ ?_
    · simp [AllP, under, gB, wB, inR_iff, IntKind.bits]
    refine must (fun hb => ?_) (fun hb => ?_)
    · -- the lists are as long as they may be
      have hb' : (2 ≤ t.nM ∧ t.nM ≤ 4) ∧ (1 ≤ t.nS ∧ t.nS ≤ 4) ∧ t.nL ≤ 6 := by
        simp [inB, gB, wB] at hb h1
        omega
      obtain ⟨hM, hS, hL⟩ := hb'
      refine And.intro ?_ ?_
      · simp [AllP, under, gB, wB, inR_iff, IntKind.bits]
      refine loopP E_ok [0, 1, 2, 5, 31, 32] (fun i : Nat => [(33, .int .i64 i)]) (fun _ H => H) (fun i => i ≤ t.nM ∧ ∀ j, j < i → t.markOk j) (fun i => t.nM - i) 0 ⟨Nat.zero_le _, fun j h => by omega⟩ ?_ ?_
      · exact ent_tau [0, 1, 2, 3, 4] ⟨by (repeat' (first | exact trivial | exact rfl | exact fun _ _ => rfl | exact Or.inl rfl | refine And.intro ?_ ?_)), by (repeat' (first | exact trivial | exact rfl | exact congrArg (SV.int .i64) (Int.natCast_succ _).symm | refine And.intro ?_ ?_)), rfl⟩
      · rintro i ⟨hi, hall⟩
        refine And.intro ?_ (And.intro (fun hlt => ?_) (fun hlt => ?_))
        · simp [AllP, under, gB, wB, inR_iff, IntKind.bits]
        · have hlt' : i < t.nM := by simpa using hlt
          have ei : (0 + (i : Int).toNat) = i := by omega
          have ei' : (0 + ((i : Int) - 1).toNat) = i - 1 := by omega
          refine And.intro ?_ ?_
          · simp [AllP, under, gB, wB, inR_iff, IntKind.bits]
            omega
          rw [ei]
          refine drawQ E_ok [4, 5] pl44_6 (by kernel_rfl) ?_
          refine And.intro (And.intro ?_ ?_) trivial
          · simp [AllP, under, gB, wB, inR_iff, IntKind.bits]
          refine (t90 _ _ _).use [] ?_ (by (repeat' (first | exact trivial | exact rfl | exact fun _ _ => rfl | exact Or.inl rfl | refine And.intro ?_ ?_))) rfl
          refine And.intro (And.intro ?_ (And.intro (fun h2 => ?_) (fun h2 => ?_))) trivial
          · simp [AllP, under, gB, wB, inR_iff, IntKind.bits]
          · refine (t95 _ _).use [] ?_ (by (repeat' (first | exact trivial | exact rfl | exact fun _ _ => rfl | exact Or.inl rfl | refine And.intro ?_ ?_))) rfl
            refine And.intro (And.intro ?_ ?_) trivial
            · have hp := fun h => hall (i - 1) h
              simp only [TD.markOk] at hp
              simp [inB, gB, wB] at h2
              simp [AllP, under, gB, wB, inR_iff, IntKind.bits, ei', inB, hiB]
              omega
            · refine must (fun hb => ?_) (fun hb => ?_)
              · refine And.intro ?_ ?_
                · simp [AllP, under, gB, wB, inR_iff, IntKind.bits]
                refine And.intro ?_ ?_
                · exact rfl
                refine And.intro ?_ ⟨i + 1, ⟨hlt', fun j hj => ?_⟩, by omega, ?_⟩
                · simp [AllP, under, gB, wB, inR_iff, IntKind.bits]
                  omega
                · rcases Nat.lt_or_ge j i with hji | hji
                  · exact hall j hji
                  · have : j = i := by omega
                    subst this
                    rw [ei'] at hb
                    simp [inB, hiB, gB, wB] at h2 hb
                    simp only [TD.markOk]
                    omega
                · exact ent_tau [0, 1, 2, 3, 4] ⟨by (repeat' (first | exact trivial | exact rfl | exact fun _ _ => rfl | exact Or.inl rfl | refine And.intro ?_ ?_)), by (repeat' (first | exact trivial | exact rfl | exact congrArg (SV.int .i64) (Int.natCast_succ _).symm | refine And.intro ?_ ?_)), rfl⟩
              · refine And.intro ?_ ?_
                · simp [AllP, under, gB, wB, inR_iff, IntKind.bits]
                refine And.intro ?_ ?_
                · exact rfl
                refine And.intro trivial ?_
                refine And.intro ?_ ⟨_, _, .inr (.inl ⟨fun hv => ?_, rfl, rfl⟩), ?_⟩
                · simp [AllP, under, gB, wB, inR_iff, IntKind.bits]
                · have hm := hv.2.2.2.1 i hlt'
                  simp only [TD.markOk] at hm
                  rw [ei'] at hb
                  simp [inB, hiB, gB, wB] at h2 hb
                  omega
                · exact ent_tau [0, 1, 2, 3] ⟨by (repeat' (first | exact trivial | exact rfl | exact fun _ _ => rfl | exact Or.inl rfl | refine And.intro ?_ ?_)), by (repeat' (first | exact trivial | exact rfl | exact congrArg (SV.int .i64) (Int.natCast_succ _).symm | refine And.intro ?_ ?_)), rfl⟩
          · refine And.intro (And.intro ?_ ?_) trivial
            · simp [AllP, under, gB, wB, inR_iff, IntKind.bits]
              simpa [gB, wB] using h2
            · have h2' : inB (t.mi i) 0 240 = false := by simpa [gB, wB] using h2
              refine must (fun hb => ?_) (fun hb => ?_)
              · simp [h2'] at hb
              · refine And.intro ?_ ?_
                · simp [AllP, under, gB, wB, inR_iff, IntKind.bits]
                refine And.intro ?_ ?_
                · exact rfl
                refine And.intro trivial ?_
                refine And.intro ?_ ⟨_, _, .inr (.inl ⟨fun hv => ?_, rfl, rfl⟩), ?_⟩
                · simp [AllP, under, gB, wB, inR_iff, IntKind.bits]
                · have hm := hv.2.2.2.1 i hlt'
                  simp only [TD.markOk] at hm
                  simp [inB, gB, wB] at h2
                  omega
                · exact ent_tau [0, 1, 2, 3] ⟨by (repeat' (first | exact trivial | exact rfl | exact fun _ _ => rfl | exact Or.inl rfl | refine And.intro ?_ ?_)), by (repeat' (first | exact trivial | exact rfl | exact congrArg (SV.int .i64) (Int.natCast_succ _).symm | refine And.intro ?_ ?_)), rfl⟩
        · have hiM : i = t.nM := by
            have : ¬ (i < t.nM) := by simpa using hlt
            omega
          subst hiM
          refine And.intro ?_ ?_
          · simp [AllP, under, gB, wB, inR_iff, IntKind.bits]
          refine And.intro trivial ?_
          refine ⟨t.F, ?_⟩
          refine And.intro ?_ ?_
          · simp [AllP, under, gB, wB, inR_iff, IntKind.bits]
          refine loopP E_ok [0, 1, 2, 5, 8, 71, 72] (fun i : Nat => [(73, .int .i64 i)]) (fun _ H => H) (fun i => i ≤ t.nS ∧ ∀ j, j < i → t.sandOk j) (fun i => t.nS - i) 0 ⟨Nat.zero_le _, fun j h => by omega⟩ ?_ ?_
          · exact ent_tau [0, 1, 2, 3, 4, 5, 6] ⟨by (repeat' (first | exact trivial | exact rfl | exact fun _ _ => rfl | exact Or.inl rfl | refine And.intro ?_ ?_)), by (repeat' (first | exact trivial | exact rfl | exact congrArg (SV.int .i64) (Int.natCast_succ _).symm | refine And.intro ?_ ?_)), rfl⟩
          · rintro i ⟨hi, hsand⟩
            refine And.intro ?_ (And.intro (fun hlt2 => ?_) (fun hlt2 => ?_))
            · simp [AllP, under, gB, wB, inR_iff, IntKind.bits]
            · have hlt' : i < t.nS := by simpa using hlt2
              have ei : (0 + (i : Int).toNat) = i := by omega
              refine And.intro ?_ ?_
              · simp [AllP, under, gB, wB, inR_iff, IntKind.bits]
                omega
              rw [ei]
              refine (t95 _ _).use [] ?_ (by (repeat' (first | exact trivial | exact rfl | exact fun _ _ => rfl | exact Or.inl rfl | refine And.intro ?_ ?_))) rfl
              refine And.intro ?_ ?_
              · simp [AllP, under, gB, wB, inR_iff, IntKind.bits]
              refine must (fun hb => ?_) (fun hb => ?_)
              · refine And.intro ?_ ⟨i + 1, ⟨hlt', fun j hj => ?_⟩, by omega, ?_⟩
                · simp [AllP, under, gB, wB, inR_iff, IntKind.bits]
                  omega
                · rcases Nat.lt_or_ge j i with hji | hji
                  · exact hsand j hji
                  · have : j = i := by omega
                    subst this
                    simp [hiB] at hb
                    simp only [TD.sandOk]
                    omega
                · exact ent_tau [0, 1, 2, 3, 4, 5, 6] ⟨by (repeat' (first | exact trivial | exact rfl | exact fun _ _ => rfl | exact Or.inl rfl | refine And.intro ?_ ?_)), by (repeat' (first | exact trivial | exact rfl | exact congrArg (SV.int .i64) (Int.natCast_succ _).symm | refine And.intro ?_ ?_)), rfl⟩
              · refine And.intro ?_ ?_
                · simp [AllP, under, gB, wB, inR_iff, IntKind.bits]
                refine And.intro ?_ ⟨_, _, .inr (.inl ⟨fun hv => ?_, rfl, rfl⟩), ?_⟩
                · simp [AllP, under, gB, wB, inR_iff, IntKind.bits]
                · have hm := hv.2.2.2.2.1 i hlt'
                  simp only [TD.sandOk] at hm
                  simp [hiB] at hb
                  omega
                · exact ent_tau [0, 1, 2, 3] ⟨by (repeat' (first | exact trivial | exact rfl | exact fun _ _ => rfl | exact Or.inl rfl | refine And.intro ?_ ?_)), by (repeat' (first | exact trivial | exact rfl | exact congrArg (SV.int .i64) (Int.natCast_succ _).symm | refine And.intro ?_ ?_)), rfl⟩
            · have hiS : i = t.nS := by
                have : ¬ (i < t.nS) := by simpa using hlt2
                omega
              subst hiS
              refine And.intro ?_ ?_
              · simp [AllP, under, gB, wB, inR_iff, IntKind.bits]
              refine And.intro trivial ?_
              refine loopP E_ok [0, 1, 8, 83, 84] (fun i : Nat => [(85, .int .i64 i)]) (fun _ H => H) (fun i => i ≤ t.nL ∧ ∀ j, j < i → t.lookOk j) (fun i => t.nL - i) 0 ⟨Nat.zero_le _, fun j h => by omega⟩ ?_ ?_
              · exact ent_tau [0, 1, 2, 3, 4, 5, 6] ⟨by (repeat' (first | exact trivial | exact rfl | exact fun _ _ => rfl | exact Or.inl rfl | refine And.intro ?_ ?_)), by (repeat' (first | exact trivial | exact rfl | exact congrArg (SV.int .i64) (Int.natCast_succ _).symm | refine And.intro ?_ ?_)), rfl⟩
              · rintro i ⟨hi, hlook⟩
                refine And.intro ?_ (And.intro (fun hlt3 => ?_) (fun hlt3 => ?_))
                · simp [AllP, under, gB, wB, inR_iff, IntKind.bits]
                · have hlt' : i < t.nL := by simpa using hlt3
                  have ei : (0 + (i : Int).toNat) = i := by omega
                  refine And.intro ?_ ?_
                  · simp [AllP, under, gB, wB, inR_iff, IntKind.bits]
                    omega
                  rw [ei]
                  refine (t46 t (by omega) (t.lp i)).use [6, 0, 1, 2, 5] ?_ (by (repeat' (first | exact trivial | exact rfl | exact fun _ _ => rfl | exact Or.inl rfl | refine And.intro ?_ ?_))) rfl
                  refine And.intro ?_ (And.intro (fun h6 => ?_) (fun h6 => ?_))
                  · simp [AllP, under, gB, wB, inR_iff, IntKind.bits]
                  · have h6' : inB (t.lp i) 0 (t.nS - 1) = true := by simpa [gB, wB] using h6
                    refine (t57 t (by omega) (by omega) (t.lm i)).use [6, 0, 1, 2, 5] ?_ (by (repeat' (first | exact trivial | exact rfl | exact fun _ _ => rfl | exact Or.inl rfl | refine And.intro ?_ ?_))) rfl
                    refine And.intro ?_ (And.intro (fun h7 => ?_) (fun h7 => ?_))
                    · simp [AllP, under, gB, wB, inR_iff, IntKind.bits]
                    · have h7' : inB (t.lm i) (t.mi 0) (t.mi (t.nM - 1)) = true := by simpa [gB, wB, h6'] using h7
                      refine (t96 _ _).use [] ?_ (by (repeat' (first | exact trivial | exact rfl | exact fun _ _ => rfl | exact Or.inl rfl | refine And.intro ?_ ?_))) rfl
                      refine And.intro ?_ ?_
                      · simp [AllP, under, gB, wB, inR_iff, IntKind.bits]
                      refine must (fun hb => ?_) (fun hb => ?_)
                      · refine And.intro ?_ ⟨i + 1, ⟨hlt', fun j hj => ?_⟩, by omega, ?_⟩
                        · simp [AllP, under, gB, wB, inR_iff, IntKind.bits]
                          omega
                        · rcases Nat.lt_or_ge j i with hji | hji
                          · exact hlook j hji
                          · have : j = i := by omega
                            subst this
                            simp [inB, hiB, gB, wB] at hb h6' h7'
                            simp only [TD.lookOk]
                            omega
                        · exact ent_tau [0, 1, 2, 3, 4, 5, 6] ⟨by (repeat' (first | exact trivial | exact rfl | exact fun _ _ => rfl | exact Or.inl rfl | refine And.intro ?_ ?_)), by (repeat' (first | exact trivial | exact rfl | exact congrArg (SV.int .i64) (Int.natCast_succ _).symm | refine And.intro ?_ ?_)), rfl⟩
                      · refine And.intro ?_ ?_
                        · simp [AllP, under, gB, wB, inR_iff, IntKind.bits]
                        refine And.intro ?_ ⟨_, _, .inr (.inl ⟨fun hv => ?_, rfl, rfl⟩), ?_⟩
                        · simp [AllP, under, gB, wB, inR_iff, IntKind.bits]
                        · have hm := hv.2.2.2.2.2 i hlt'
                          simp only [TD.lookOk] at hm
                          simp [inB, hiB, gB, wB, h6', h7'] at hb h6' h7'
                          omega
                        · exact ent_tau [0, 1, 2, 3] ⟨by (repeat' (first | exact trivial | exact rfl | exact fun _ _ => rfl | exact Or.inl rfl | refine And.intro ?_ ?_)), by (repeat' (first | exact trivial | exact rfl | exact congrArg (SV.int .i64) (Int.natCast_succ _).symm | refine And.intro ?_ ?_)), rfl⟩
                    · have h7' : inB (t.lm i) (t.mi 0) (t.mi (t.nM - 1)) = false := by simpa [gB, wB, h6'] using h7
                      refine And.intro ?_ ?_
                      · simp [AllP, under, gB, wB, inR_iff, IntKind.bits]
                        simp [h6', h7']
                      refine must (fun hb => ?_) (fun hb => ?_)
                      · simp [h6', h7'] at hb
                      · refine And.intro ?_ ?_
                        · simp [AllP, under, gB, wB, inR_iff, IntKind.bits]
                        refine And.intro ?_ ⟨_, _, .inr (.inl ⟨fun hv => ?_, rfl, rfl⟩), ?_⟩
                        · simp [AllP, under, gB, wB, inR_iff, IntKind.bits]
                        · have hm := hv.2.2.2.2.2 i hlt'
                          simp only [TD.lookOk] at hm
                          simp [inB, hiB, gB, wB] at h6' h7'
                          omega
                        · exact ent_tau [0, 1, 2, 3] ⟨by (repeat' (first | exact trivial | exact rfl | exact fun _ _ => rfl | exact Or.inl rfl | refine And.intro ?_ ?_)), by (repeat' (first | exact trivial | exact rfl | exact congrArg (SV.int .i64) (Int.natCast_succ _).symm | refine And.intro ?_ ?_)), rfl⟩
                  · have h6' : inB (t.lp i) 0 (t.nS - 1) = false := by simpa [gB, wB] using h6
                    refine And.intro ?_ (And.intro (fun h7 => ?_) (fun h7 => ?_))
                    · simp [AllP, under, gB, wB, inR_iff, IntKind.bits]
                      exact h6'
                    · simp [gB, wB, h6'] at h7
                    · refine And.intro ?_ ?_
                      · simp [AllP, under, gB, wB, inR_iff, IntKind.bits]
                      refine must (fun hb => ?_) (fun hb => ?_)
                      · simp [h6'] at hb
                      · refine And.intro ?_ ?_
                        · simp [AllP, under, gB, wB, inR_iff, IntKind.bits]
                        refine And.intro ?_ ⟨_, _, .inr (.inl ⟨fun hv => ?_, rfl, rfl⟩), ?_⟩
                        · simp [AllP, under, gB, wB, inR_iff, IntKind.bits]
                        · have hm := hv.2.2.2.2.2 i hlt'
                          simp only [TD.lookOk] at hm
                          simp [inB, hiB, gB, wB] at h6'
                          omega
                        · exact ent_tau [0, 1, 2, 3] ⟨by (repeat' (first | exact trivial | exact rfl | exact fun _ _ => rfl | exact Or.inl rfl | refine And.intro ?_ ?_)), by (repeat' (first | exact trivial | exact rfl | exact congrArg (SV.int .i64) (Int.natCast_succ _).symm | refine And.intro ?_ ?_)), rfl⟩
                · have hiL : i = t.nL := by
                    have : ¬ (i < t.nL) := by simpa using hlt3
                    omega
                  subst hiL
                  have hv : t.Valid := ⟨hM, hS, hL, hall, hsand, hlook⟩
                  refine And.intro ?_ ?_
                  · simp [AllP, under, gB, wB, inR_iff, IntKind.bits]
                  rcases hf with rfl | rfl | rfl
                  · refine And.intro ?_ ?_
                    · simp [AllP, under, gB, wB, inR_iff, IntKind.bits]
                    refine (his hv).use [6, 0, 1, 2, 5, 3] ?_ (by (repeat' (first | exact trivial | exact rfl | exact fun _ _ => rfl | exact Or.inl rfl | refine And.intro ?_ ?_))) rfl
                    refine And.intro ?_ ?_
                    · simp [AllP, under, gB, wB, inR_iff, IntKind.bits]
                    refine must (fun hb => ?_) (fun hb => ?_)
                    · refine And.intro ?_ ⟨_, _, .inl ⟨hv, hb, rfl, rfl⟩, ?_⟩
                      · simp [AllP, under, gB, wB, inR_iff, IntKind.bits]
                      exact ent_tau [0, 1, 2, 3, 6, 5] ⟨by (repeat' (first | exact trivial | exact rfl | exact fun _ _ => rfl | exact Or.inl rfl | refine And.intro ?_ ?_)), by (repeat' (first | exact trivial | exact rfl | exact congrArg (SV.int .i64) (Int.natCast_succ _).symm | refine And.intro ?_ ?_)), rfl⟩
                    · refine And.intro ?_ ⟨_, _, .inr (.inr ⟨hv, hb, rfl, rfl⟩), ?_⟩
                      · simp [AllP, under, gB, wB, inR_iff, IntKind.bits]
                      exact ent_tau [0, 1, 2, 3] ⟨by (repeat' (first | exact trivial | exact rfl | exact fun _ _ => rfl | exact Or.inl rfl | refine And.intro ?_ ?_)), by (repeat' (first | exact trivial | exact rfl | exact congrArg (SV.int .i64) (Int.natCast_succ _).symm | refine And.intro ?_ ?_)), rfl⟩
                  · refine And.intro ?_ ?_
                    · simp [AllP, under, gB, wB, inR_iff, IntKind.bits]
                    refine (his hv).use [6, 0, 1, 2, 5, 3] ?_ (by (repeat' (first | exact trivial | exact rfl | exact fun _ _ => rfl | exact Or.inl rfl | refine And.intro ?_ ?_))) rfl
                    refine And.intro ?_ ?_
                    · simp [AllP, under, gB, wB, inR_iff, IntKind.bits]
                    refine must (fun hb => ?_) (fun hb => ?_)
                    · refine And.intro ?_ ⟨_, _, .inl ⟨hv, hb, rfl, rfl⟩, ?_⟩
                      · simp [AllP, under, gB, wB, inR_iff, IntKind.bits]
                      exact ent_tau [0, 1, 2, 3, 6, 5] ⟨by (repeat' (first | exact trivial | exact rfl | exact fun _ _ => rfl | exact Or.inl rfl | refine And.intro ?_ ?_)), by (repeat' (first | exact trivial | exact rfl | exact congrArg (SV.int .i64) (Int.natCast_succ _).symm | refine And.intro ?_ ?_)), rfl⟩
                    · refine And.intro ?_ ⟨_, _, .inr (.inr ⟨hv, hb, rfl, rfl⟩), ?_⟩
                      · simp [AllP, under, gB, wB, inR_iff, IntKind.bits]
                      exact ent_tau [0, 1, 2, 3] ⟨by (repeat' (first | exact trivial | exact rfl | exact fun _ _ => rfl | exact Or.inl rfl | refine And.intro ?_ ?_)), by (repeat' (first | exact trivial | exact rfl | exact congrArg (SV.int .i64) (Int.natCast_succ _).symm | refine And.intro ?_ ?_)), rfl⟩
                  · refine And.intro ?_ ?_
                    · simp [AllP, under, gB, wB, inR_iff, IntKind.bits]
                    refine (his hv).use [6, 0, 1, 2, 5, 3] ?_ (by (repeat' (first | exact trivial | exact rfl | exact fun _ _ => rfl | exact Or.inl rfl | refine And.intro ?_ ?_))) rfl
                    refine And.intro ?_ ?_
                    · simp [AllP, under, gB, wB, inR_iff, IntKind.bits]
                    refine must (fun hb => ?_) (fun hb => ?_)
                    · refine And.intro ?_ ⟨_, _, .inl ⟨hv, hb, rfl, rfl⟩, ?_⟩
                      · simp [AllP, under, gB, wB, inR_iff, IntKind.bits]
                      exact ent_tau [0, 1, 2, 3, 6, 5] ⟨by (repeat' (first | exact trivial | exact rfl | exact fun _ _ => rfl | exact Or.inl rfl | refine And.intro ?_ ?_)), by (repeat' (first | exact trivial | exact rfl | exact congrArg (SV.int .i64) (Int.natCast_succ _).symm | refine And.intro ?_ ?_)), rfl⟩
                    · refine And.intro ?_ ⟨_, _, .inr (.inr ⟨hv, hb, rfl, rfl⟩), ?_⟩
                      · simp [AllP, under, gB, wB, inR_iff, IntKind.bits]
                      exact ent_tau [0, 1, 2, 3] ⟨by (repeat' (first | exact trivial | exact rfl | exact fun _ _ => rfl | exact Or.inl rfl | refine And.intro ?_ ?_)), by (repeat' (first | exact trivial | exact rfl | exact congrArg (SV.int .i64) (Int.natCast_succ _).symm | refine And.intro ?_ ?_)), rfl⟩
    · refine And.intro ?_ ⟨_, _, .inr (.inl ⟨fun hv => ?_, rfl, rfl⟩), ?_⟩
      · simp [AllP, under, gB, wB, inR_iff, IntKind.bits]
      · have h3 := hv.1
        have h4 := hv.2.1
        have h5 := hv.2.2.1
        simp [inB, gB, wB] at hb h1
        omega
      · exact ent_tau [0, 1, 2, 3] ⟨by (repeat' (first | exact trivial | exact rfl | exact fun _ _ => rfl | exact Or.inl rfl | refine And.intro ?_ ?_)), by (repeat' (first | exact trivial | exact rfl | exact congrArg (SV.int .i64) (Int.natCast_succ _).symm | refine And.intro ?_ ?_)), rfl⟩
  · have h1' : inB (t.nM : Int) 2 4 = false := by simpa [gB, wB] using h1
    refine And.intro ?_ ?_
    · simp [AllP, under, gB, wB, inR_iff, IntKind.bits]
      exact h1'
    refine must (fun hb => ?_) (fun hb => ?_)
    · simp [h1'] at hb
    · refine And.intro ?_ ⟨_, _, .inr (.inl ⟨fun hv => ?_, rfl, rfl⟩), ?_⟩
      · simp [AllP, under, gB, wB, inR_iff, IntKind.bits]
      · have h3 := hv.1
        simp [inB, gB, wB] at h1
        omega
      · exact ent_tau [0, 1, 2, 3] ⟨by (repeat' (first | exact trivial | exact rfl | exact fun _ _ => rfl | exact Or.inl rfl | refine And.intro ?_ ?_)), by (repeat' (first | exact trivial | exact rfl | exact congrArg (SV.int .i64) (Int.natCast_succ _).symm | refine And.intro ?_ ?_)), rfl⟩
end Go.Proofs.YtipbempkngfdbaaDoor
/-
  Contracts: a tide is opened; the question has captured 2 variables.
-/
namespace Go.Proofs.YtipbempkngfdbaaDoor
open Go Go.Sy
set_option linter.unusedSimpArgs false
set_option maxRecDepth 100000
set_option maxHeartbeats 4000000
attribute [local irreducible] CallP CodeP Ent YieldP
set_option maxHeartbeats 800000

noncomputable def B44_2 (t : TD) (c0 c1 : Int) : SHeap := [some (.roa 3 t.nM (row3 t.mi t.mlo t.mhi)), some (.roa 2 t.nS (row2 t.slo t.shi)), some (.roa 4 t.nL (row4 t.lp t.lm t.llo t.lhi)), some (.roc [.int .i64 c0]), some (.roc [.int .i64 c1])]
theorem t44_2 (t : TD) (c0 c1 : Int) (f : Nat) (hf : f = 77) (b : Bool)
    (his : t.Valid → CallP Tryd.prog f [.ptr 0 0, .ptr 5 0, .ptr 6 0] (t.shore ++ [some (.roc [.int .i64 c0]), some (.roc [.int .i64 c1])]) (Ret (.bool b) (t.shore ++ [some (.roc [.int .i64 c0]), some (.roc [.int .i64 c1])]))) :
    CallP Tryd.prog 44 [t.A, .fn (.func f) [] [.ptr 3 0, .ptr 4 0]] (B44_2 t c0 c1) (K44 t b (B44_2 t c0 c1) 5 6) := by
  refine callK (E := E) E_ok Tryd.func44 rfl ?_
  refine And.intro ?_ ?_
  · simp [AllP, under, gB, wB, inR_iff, IntKind.bits]
  refine (t90 _ _ _).use [] ?_ (by (repeat' (first | exact trivial | exact rfl | exact fun _ _ => rfl | exact Or.inl rfl | refine And.intro ?_ ?_))) rfl
  refine And.intro ?_ ?_
  · simp [AllP, under, gB, wB, inR_iff, IntKind.bits]
  refine And.intro (fun h1 => ?_) (fun h1 => ?_)
  · refine (t90 _ _ _).use [] ?_ (by (repeat' (first | exact trivial | exact rfl | exact fun _ _ => rfl | exact Or.inl rfl | refine And.intro ?_ ?_))) rfl
    refine And.intro ?_ ?_
    · simp [AllP, under, gB, wB, inR_iff, IntKind.bits]
    refine must (fun hb => ?_) (fun hb => ?_)
    · -- the lists are as long as they may be
      have hb' : (2 ≤ t.nM ∧ t.nM ≤ 4) ∧ (1 ≤ t.nS ∧ t.nS ≤ 4) ∧ t.nL ≤ 6 := by
        simp [inB, gB, wB] at hb h1
        omega
      obtain ⟨hM, hS, hL⟩ := hb'
      refine And.intro ?_ ?_
      · simp [AllP, under, gB, wB, inR_iff, IntKind.bits]
      refine loopP E_ok [0, 1, 2, 5, 31, 32] (fun i : Nat => [(33, .int .i64 i)]) (fun _ H => H) (fun i => i ≤ t.nM ∧ ∀ j, j < i → t.markOk j) (fun i => t.nM - i) 0 ⟨Nat.zero_le _, fun j h => by omega⟩ ?_ ?_
      · exact ent_tau [0, 1, 2, 3, 4, 5] ⟨by (repeat' (first | exact trivial | exact rfl | exact fun _ _ => rfl | exact Or.inl rfl | refine And.intro ?_ ?_)), by (repeat' (first | exact trivial | exact rfl | exact congrArg (SV.int .i64) (Int.natCast_succ _).symm | refine And.intro ?_ ?_)), rfl⟩
      · rintro i ⟨hi, hall⟩
        refine And.intro ?_ (And.intro (fun hlt => ?_) (fun hlt => ?_))
        · simp [AllP, under, gB, wB, inR_iff, IntKind.bits]
        · have hlt' : i < t.nM := by simpa using hlt
          have ei : (0 + (i : Int).toNat) = i := by omega
          have ei' : (0 + ((i : Int) - 1).toNat) = i - 1 := by omega
          refine And.intro ?_ ?_
          · simp [AllP, under, gB, wB, inR_iff, IntKind.bits]
            omega
          rw [ei]
          refine drawQ E_ok [5, 6] pl44_6 (by kernel_rfl) ?_
          refine And.intro (And.intro ?_ ?_) trivial
          · simp [AllP, under, gB, wB, inR_iff, IntKind.bits]
          refine (t90 _ _ _).use [] ?_ (by (repeat' (first | exact trivial | exact rfl | exact fun _ _ => rfl | exact Or.inl rfl | refine And.intro ?_ ?_))) rfl
          refine And.intro (And.intro ?_ (And.intro (fun h2 => ?_) (fun h2 => ?_))) trivial
          · simp [AllP, under, gB, wB, inR_iff, IntKind.bits]
          · refine (t95 _ _).use [] ?_ (by (repeat' (first | exact trivial | exact rfl | exact fun _ _ => rfl | exact Or.inl rfl | refine And.intro ?_ ?_))) rfl
            refine And.intro (And.intro ?_ ?_) trivial
            · have hp := fun h => hall (i - 1) h
              simp only [TD.markOk] at hp
              simp [inB, gB, wB] at h2
              simp [AllP, under, gB, wB, inR_iff, IntKind.bits, ei', inB, hiB]
              omega
            · refine must (fun hb => ?_) (fun hb => ?_)
              · refine And.intro ?_ ?_
                · simp [AllP, under, gB, wB, inR_iff, IntKind.bits]
                refine And.intro ?_ ?_
                · exact rfl
                refine And.intro ?_ ⟨i + 1, ⟨hlt', fun j hj => ?_⟩, by omega, ?_⟩
                · simp [AllP, under, gB, wB, inR_iff, IntKind.bits]
                  omega
                · rcases Nat.lt_or_ge j i with hji | hji
                  · exact hall j hji
                  · have : j = i := by omega
                    subst this
                    rw [ei'] at hb
                    simp [inB, hiB, gB, wB] at h2 hb
                    simp only [TD.markOk]
                    omega
                · exact ent_tau [0, 1, 2, 3, 4, 5] ⟨by (repeat' (first | exact trivial | exact rfl | exact fun _ _ => rfl | exact Or.inl rfl | refine And.intro ?_ ?_)), by (repeat' (first | exact trivial | exact rfl | exact congrArg (SV.int .i64) (Int.natCast_succ _).symm | refine And.intro ?_ ?_)), rfl⟩
              · refine And.intro ?_ ?_
                · simp [AllP, under, gB, wB, inR_iff, IntKind.bits]
                refine And.intro ?_ ?_
                · exact rfl
                refine And.intro trivial ?_
                refine And.intro ?_ ⟨_, _, .inr (.inl ⟨fun hv => ?_, rfl, rfl⟩), ?_⟩
                · simp [AllP, under, gB, wB, inR_iff, IntKind.bits]
                · have hm := hv.2.2.2.1 i hlt'
                  simp only [TD.markOk] at hm
                  rw [ei'] at hb
                  simp [inB, hiB, gB, wB] at h2 hb
                  omega
                · exact ent_tau [0, 1, 2, 3, 4] ⟨by (repeat' (first | exact trivial | exact rfl | exact fun _ _ => rfl | exact Or.inl rfl | refine And.intro ?_ ?_)), by (repeat' (first | exact trivial | exact rfl | exact congrArg (SV.int .i64) (Int.natCast_succ _).symm | refine And.intro ?_ ?_)), rfl⟩
          · refine And.intro (And.intro ?_ ?_) trivial
            · simp [AllP, under, gB, wB, inR_iff, IntKind.bits]
              simpa [gB, wB] using h2
            · have h2' : inB (t.mi i) 0 240 = false := by simpa [gB, wB] using h2
              refine must (fun hb => ?_) (fun hb => ?_)
              · simp [h2'] at hb
              · refine And.intro ?_ ?_
                · simp [AllP, under, gB, wB, inR_iff, IntKind.bits]
                refine And.intro ?_ ?_
                · exact rfl
                refine And.intro trivial ?_
                refine And.intro ?_ ⟨_, _, .inr (.inl ⟨fun hv => ?_, rfl, rfl⟩), ?_⟩
                · simp [AllP, under, gB, wB, inR_iff, IntKind.bits]
                · have hm := hv.2.2.2.1 i hlt'
                  simp only [TD.markOk] at hm
                  simp [inB, gB, wB] at h2
                  omega
                · exact ent_tau [0, 1, 2, 3, 4] ⟨by (repeat' (first | exact trivial | exact rfl | exact fun _ _ => rfl | exact Or.inl rfl | refine And.intro ?_ ?_)), by (repeat' (first | exact trivial | exact rfl | exact congrArg (SV.int .i64) (Int.natCast_succ _).symm | refine And.intro ?_ ?_)), rfl⟩
        · have hiM : i = t.nM := by
            have : ¬ (i < t.nM) := by simpa using hlt
            omega
          subst hiM
          refine And.intro ?_ ?_
          · simp [AllP, under, gB, wB, inR_iff, IntKind.bits]
          refine And.intro trivial ?_
          refine ⟨t.F, ?_⟩
          refine And.intro ?_ ?_
          · simp [AllP, under, gB, wB, inR_iff, IntKind.bits]
          refine loopP E_ok [0, 1, 2, 5, 8, 71, 72] (fun i : Nat => [(73, .int .i64 i)]) (fun _ H => H) (fun i => i ≤ t.nS ∧ ∀ j, j < i → t.sandOk j) (fun i => t.nS - i) 0 ⟨Nat.zero_le _, fun j h => by omega⟩ ?_ ?_
          · exact ent_tau [0, 1, 2, 3, 4, 5, 6, 7] ⟨by (repeat' (first | exact trivial | exact rfl | exact fun _ _ => rfl | exact Or.inl rfl | refine And.intro ?_ ?_)), by (repeat' (first | exact trivial | exact rfl | exact congrArg (SV.int .i64) (Int.natCast_succ _).symm | refine And.intro ?_ ?_)), rfl⟩
          · rintro i ⟨hi, hsand⟩
            refine And.intro ?_ (And.intro (fun hlt2 => ?_) (fun hlt2 => ?_))
            · simp [AllP, under, gB, wB, inR_iff, IntKind.bits]
            · have hlt' : i < t.nS := by simpa using hlt2
              have ei : (0 + (i : Int).toNat) = i := by omega
              refine And.intro ?_ ?_
              · simp [AllP, under, gB, wB, inR_iff, IntKind.bits]
                omega
              rw [ei]
              refine (t95 _ _).use [] ?_ (by (repeat' (first | exact trivial | exact rfl | exact fun _ _ => rfl | exact Or.inl rfl | refine And.intro ?_ ?_))) rfl
              refine And.intro ?_ ?_
              · simp [AllP, under, gB, wB, inR_iff, IntKind.bits]
              refine must (fun hb => ?_) (fun hb => ?_)
              · refine And.intro ?_ ⟨i + 1, ⟨hlt', fun j hj => ?_⟩, by omega, ?_⟩
                · simp [AllP, under, gB, wB, inR_iff, IntKind.bits]
                  omega
                · rcases Nat.lt_or_ge j i with hji | hji
                  · exact hsand j hji
                  · have : j = i := by omega
                    subst this
                    simp [hiB] at hb
                    simp only [TD.sandOk]
                    omega
                · exact ent_tau [0, 1, 2, 3, 4, 5, 6, 7] ⟨by (repeat' (first | exact trivial | exact rfl | exact fun _ _ => rfl | exact Or.inl rfl | refine And.intro ?_ ?_)), by (repeat' (first | exact trivial | exact rfl | exact congrArg (SV.int .i64) (Int.natCast_succ _).symm | refine And.intro ?_ ?_)), rfl⟩
              · refine And.intro ?_ ?_
                · simp [AllP, under, gB, wB, inR_iff, IntKind.bits]
                refine And.intro ?_ ⟨_, _, .inr (.inl ⟨fun hv => ?_, rfl, rfl⟩), ?_⟩
                · simp [AllP, under, gB, wB, inR_iff, IntKind.bits]
                · have hm := hv.2.2.2.2.1 i hlt'
                  simp only [TD.sandOk] at hm
                  simp [hiB] at hb
                  omega
                · exact ent_tau [0, 1, 2, 3, 4] ⟨by (repeat' (first | exact trivial | exact rfl | exact fun _ _ => rfl | exact Or.inl rfl | refine And.intro ?_ ?_)), by (repeat' (first | exact trivial | exact rfl | exact congrArg (SV.int .i64) (Int.natCast_succ _).symm | refine And.intro ?_ ?_)), rfl⟩
            · have hiS : i = t.nS := by
                have : ¬ (i < t.nS) := by simpa using hlt2
                omega
              subst hiS
              refine And.intro ?_ ?_
              · simp [AllP, under, gB, wB, inR_iff, IntKind.bits]
              refine And.intro trivial ?_
              refine loopP E_ok [0, 1, 8, 83, 84] (fun i : Nat => [(85, .int .i64 i)]) (fun _ H => H) (fun i => i ≤ t.nL ∧ ∀ j, j < i → t.lookOk j) (fun i => t.nL - i) 0 ⟨Nat.zero_le _, fun j h => by omega⟩ ?_ ?_
              · exact ent_tau [0, 1, 2, 3, 4, 5, 6, 7] ⟨by (repeat' (first | exact trivial | exact rfl | exact fun _ _ => rfl | exact Or.inl rfl | refine And.intro ?_ ?_)), by (repeat' (first | exact trivial | exact rfl | exact congrArg (SV.int .i64) (Int.natCast_succ _).symm | refine And.intro ?_ ?_)), rfl⟩
              · rintro i ⟨hi, hlook⟩
                refine And.intro ?_ (And.intro (fun hlt3 => ?_) (fun hlt3 => ?_))
                · simp [AllP, under, gB, wB, inR_iff, IntKind.bits]
                · have hlt' : i < t.nL := by simpa using hlt3
                  have ei : (0 + (i : Int).toNat) = i := by omega
                  refine And.intro ?_ ?_
                  · simp [AllP, under, gB, wB, inR_iff, IntKind.bits]
                    omega
                  rw [ei]
                  refine (t46 t (by omega) (t.lp i)).use [7, 0, 1, 2, 6] ?_ (by (repeat' (first | exact trivial | exact rfl | exact fun _ _ => rfl | exact Or.inl rfl | refine And.intro ?_ ?_))) rfl
                  refine And.intro ?_ (And.intro (fun h6 => ?_) (fun h6 => ?_))
                  · simp [AllP, under, gB, wB, inR_iff, IntKind.bits]
                  · have h6' : inB (t.lp i) 0 (t.nS - 1) = true := by simpa [gB, wB] using h6
                    refine (t57 t (by omega) (by omega) (t.lm i)).use [7, 0, 1, 2, 6] ?_ (by (repeat' (first | exact trivial | exact rfl | exact fun _ _ => rfl | exact Or.inl rfl | refine And.intro ?_ ?_))) rfl
                    refine And.intro ?_ (And.intro (fun h7 => ?_) (fun h7 => ?_))
                    · simp [AllP, under, gB, wB, inR_iff, IntKind.bits]
                    · have h7' : inB (t.lm i) (t.mi 0) (t.mi (t.nM - 1)) = true := by simpa [gB, wB, h6'] using h7
                      refine (t96 _ _).use [] ?_ (by (repeat' (first | exact trivial | exact rfl | exact fun _ _ => rfl | exact Or.inl rfl | refine And.intro ?_ ?_))) rfl
                      refine And.intro ?_ ?_
                      · simp [AllP, under, gB, wB, inR_iff, IntKind.bits]
                      refine must (fun hb => ?_) (fun hb => ?_)
                      · refine And.intro ?_ ⟨i + 1, ⟨hlt', fun j hj => ?_⟩, by omega, ?_⟩
                        · simp [AllP, under, gB, wB, inR_iff, IntKind.bits]
                          omega
                        · rcases Nat.lt_or_ge j i with hji | hji
                          · exact hlook j hji
                          · have : j = i := by omega
                            subst this
                            simp [inB, hiB, gB, wB] at hb h6' h7'
                            simp only [TD.lookOk]
                            omega
                        · exact ent_tau [0, 1, 2, 3, 4, 5, 6, 7] ⟨by (repeat' (first | exact trivial | exact rfl | exact fun _ _ => rfl | exact Or.inl rfl | refine And.intro ?_ ?_)), by (repeat' (first | exact trivial | exact rfl | exact congrArg (SV.int .i64) (Int.natCast_succ _).symm | refine And.intro ?_ ?_)), rfl⟩
                      · refine And.intro ?_ ?_
                        · simp [AllP, under, gB, wB, inR_iff, IntKind.bits]
                        refine And.intro ?_ ⟨_, _, .inr (.inl ⟨fun hv => ?_, rfl, rfl⟩), ?_⟩
                        · simp [AllP, under, gB, wB, inR_iff, IntKind.bits]
                        · have hm := hv.2.2.2.2.2 i hlt'
                          simp only [TD.lookOk] at hm
                          simp [inB, hiB, gB, wB, h6', h7'] at hb h6' h7'
                          omega
                        · exact ent_tau [0, 1, 2, 3, 4] ⟨by (repeat' (first | exact trivial | exact rfl | exact fun _ _ => rfl | exact Or.inl rfl | refine And.intro ?_ ?_)), by (repeat' (first | exact trivial | exact rfl | exact congrArg (SV.int .i64) (Int.natCast_succ _).symm | refine And.intro ?_ ?_)), rfl⟩
                    · have h7' : inB (t.lm i) (t.mi 0) (t.mi (t.nM - 1)) = false := by simpa [gB, wB, h6'] using h7
                      refine And.intro ?_ ?_
                      · simp [AllP, under, gB, wB, inR_iff, IntKind.bits]
                        simp [h6', h7']
                      refine must (fun hb => ?_) (fun hb => ?_)
                      · simp [h6', h7'] at hb
                      · refine And.intro ?_ ?_
                        · simp [AllP, under, gB, wB, inR_iff, IntKind.bits]
                        refine And.intro ?_ ⟨_, _, .inr (.inl ⟨fun hv => ?_, rfl, rfl⟩), ?_⟩
                        · simp [AllP, under, gB, wB, inR_iff, IntKind.bits]
                        · have hm := hv.2.2.2.2.2 i hlt'
                          simp only [TD.lookOk] at hm
                          simp [inB, hiB, gB, wB] at h6' h7'
                          omega
                        · exact ent_tau [0, 1, 2, 3, 4] ⟨by (repeat' (first | exact trivial | exact rfl | exact fun _ _ => rfl | exact Or.inl rfl | refine And.intro ?_ ?_)), by (repeat' (first | exact trivial | exact rfl | exact congrArg (SV.int .i64) (Int.natCast_succ _).symm | refine And.intro ?_ ?_)), rfl⟩
                  · have h6' : inB (t.lp i) 0 (t.nS - 1) = false := by simpa [gB, wB] using h6
                    refine And.intro ?_ (And.intro (fun h7 => ?_) (fun h7 => ?_))
                    · simp [AllP, under, gB, wB, inR_iff, IntKind.bits]
                      exact h6'
                    · simp [gB, wB, h6'] at h7
                    · refine And.intro ?_ ?_
                      · simp [AllP, under, gB, wB, inR_iff, IntKind.bits]
                      refine must (fun hb => ?_) (fun hb => ?_)
                      · simp [h6'] at hb
                      · refine And.intro ?_ ?_
                        · simp [AllP, under, gB, wB, inR_iff, IntKind.bits]
                        refine And.intro ?_ ⟨_, _, .inr (.inl ⟨fun hv => ?_, rfl, rfl⟩), ?_⟩
                        · simp [AllP, under, gB, wB, inR_iff, IntKind.bits]
                        · have hm := hv.2.2.2.2.2 i hlt'
                          simp only [TD.lookOk] at hm
                          simp [inB, hiB, gB, wB] at h6'
                          omega
                        · exact ent_tau [0, 1, 2, 3, 4] ⟨by (repeat' (first | exact trivial | exact rfl | exact fun _ _ => rfl | exact Or.inl rfl | refine And.intro ?_ ?_)), by (repeat' (first | exact trivial | exact rfl | exact congrArg (SV.int .i64) (Int.natCast_succ _).symm | refine And.intro ?_ ?_)), rfl⟩
                · have hiL : i = t.nL := by
                    have : ¬ (i < t.nL) := by simpa using hlt3
                    omega
                  subst hiL
                  have hv : t.Valid := ⟨hM, hS, hL, hall, hsand, hlook⟩
                  refine And.intro ?_ ?_
                  · simp [AllP, under, gB, wB, inR_iff, IntKind.bits]
                  rcases hf with rfl
                  · refine And.intro ?_ ?_
                    · simp [AllP, under, gB, wB, inR_iff, IntKind.bits]
                    refine (his hv).use [7, 0, 1, 2, 6, 3, 4] ?_ (by (repeat' (first | exact trivial | exact rfl | exact fun _ _ => rfl | exact Or.inl rfl | refine And.intro ?_ ?_))) rfl
                    refine And.intro ?_ ?_
                    · simp [AllP, under, gB, wB, inR_iff, IntKind.bits]
                    refine must (fun hb => ?_) (fun hb => ?_)
                    · refine And.intro ?_ ⟨_, _, .inl ⟨hv, hb, rfl, rfl⟩, ?_⟩
                      · simp [AllP, under, gB, wB, inR_iff, IntKind.bits]
                      exact ent_tau [0, 1, 2, 3, 4, 7, 6] ⟨by (repeat' (first | exact trivial | exact rfl | exact fun _ _ => rfl | exact Or.inl rfl | refine And.intro ?_ ?_)), by (repeat' (first | exact trivial | exact rfl | exact congrArg (SV.int .i64) (Int.natCast_succ _).symm | refine And.intro ?_ ?_)), rfl⟩
                    · refine And.intro ?_ ⟨_, _, .inr (.inr ⟨hv, hb, rfl, rfl⟩), ?_⟩
                      · simp [AllP, under, gB, wB, inR_iff, IntKind.bits]
                      exact ent_tau [0, 1, 2, 3, 4] ⟨by (repeat' (first | exact trivial | exact rfl | exact fun _ _ => rfl | exact Or.inl rfl | refine And.intro ?_ ?_)), by (repeat' (first | exact trivial | exact rfl | exact congrArg (SV.int .i64) (Int.natCast_succ _).symm | refine And.intro ?_ ?_)), rfl⟩
    · refine And.intro ?_ ⟨_, _, .inr (.inl ⟨fun hv => ?_, rfl, rfl⟩), ?_⟩
      · simp [AllP, under, gB, wB, inR_iff, IntKind.bits]
      · have h3 := hv.1
        have h4 := hv.2.1
        have h5 := hv.2.2.1
        simp [inB, gB, wB] at hb h1
        omega
      · exact ent_tau [0, 1, 2, 3, 4] ⟨by (repeat' (first | exact trivial | exact rfl | exact fun _ _ => rfl | exact Or.inl rfl | refine And.intro ?_ ?_)), by (repeat' (first | exact trivial | exact rfl | exact congrArg (SV.int .i64) (Int.natCast_succ _).symm | refine And.intro ?_ ?_)), rfl⟩
  · have h1' : inB (t.nM : Int) 2 4 = false := by simpa [gB, wB] using h1
    refine And.intro ?_ ?_
    · simp [AllP, under, gB, wB, inR_iff, IntKind.bits]
      exact h1'
    refine must (fun hb => ?_) (fun hb => ?_)
    · simp [h1'] at hb
    · refine And.intro ?_ ⟨_, _, .inr (.inl ⟨fun hv => ?_, rfl, rfl⟩), ?_⟩
      · simp [AllP, under, gB, wB, inR_iff, IntKind.bits]
      · have h3 := hv.1
        simp [inB, gB, wB] at h1
        omega
      · exact ent_tau [0, 1, 2, 3, 4] ⟨by (repeat' (first | exact trivial | exact rfl | exact fun _ _ => rfl | exact Or.inl rfl | refine And.intro ?_ ?_)), by (repeat' (first | exact trivial | exact rfl | exact congrArg (SV.int .i64) (Int.natCast_succ _).symm | refine And.intro ?_ ?_)), rfl⟩
end Go.Proofs.YtipbempkngfdbaaDoor
/-
  Contracts: both ends of a set, and how many numbers it has.
-/
namespace Go.Proofs.YtipbempkngfdbaaDoor
open Go Go.Sy
set_option linter.unusedSimpArgs false
set_option maxRecDepth 100000
set_option maxHeartbeats 4000000
attribute [local irreducible] CallP CodeP Ent YieldP

theorem t117 (x : Int) (h0 : 0 ≤ x) (h1 : x ≤ 18446744073709551615) : CallP Tryd.prog 117 [.int .u64 x] [] (Ret (.int .i64 (Lib.bitLen x.toNat)) []) :=
  callP_of_calls (fun _ => rfl) (fun _ => rfl) fun W => (bits_Len64 x W h0 h1).mono fun e w' h => ⟨h.1, by rw [h.2]; exact Nat.le_refl _, fun b _ => by rw [h.2], by rw [h.2]; exact .refl _⟩

/-- Numbers of at most three bits in a row: all that is said of them is reckoned. -/
def fewOk (lo m : Nat) : Bool :=
  let x : Int := ((m * 2 ^ lo : Nat) : Int)
  let i := shr (w64 (bitOp .and .u64 x (w64 (0 - x)) * 285870213051353865)) 58
  (decide (0 ≤ i) && decide (i < 64)) && (decide (tz64 x = lo + (if m % 2 = 1 then 0 else if m % 4 = 2 then 1 else 2)) && (decide (oc64 x = (if m = 1 ∨ m = 2 ∨ m = 4 then 1 else if m = 7 then 3 else 2)) && decide (Lib.bitLen (m * 2 ^ lo) = lo + (if 4 ≤ m then 3 else if 2 ≤ m then 2 else 1))))
theorem few_all : ∀ lo, lo < 61 → ∀ m, m < 8 → 0 < m → fewOk lo m = true := by decide
/-- At most three bits in a row. -/
def isFew (x : Int) : Prop := ∃ lo m : Nat, lo < 61 ∧ 0 < m ∧ m < 8 ∧ x = ((m * 2 ^ lo : Nat) : Int)
theorem few_facts {x : Int} (h : isFew x) : x ≠ 0 ∧ (0 ≤ x ∧ x ≤ 18446744073709551615) ∧ (0 ≤ shr (w64 (bitOp .and .u64 x (w64 (0 - x)) * 285870213051353865)) 58 ∧ shr (w64 (bitOp .and .u64 x (w64 (0 - x)) * 285870213051353865)) 58 < 64) ∧
    (0 ≤ tz64 x ∧ tz64 x ≤ Lib.bitLen x.toNat - 1 ∧ (Lib.bitLen x.toNat : Int) - 1 ≤ 63) ∧ 1 ≤ oc64 x ∧ oc64 x ≤ 3 := by
  obtain ⟨lo, m, h1, h2, h3, rfl⟩ := h
  have hf := few_all lo h1 m h3 h2
  simp only [fewOk, Bool.and_eq_true, decide_eq_true_eq] at hf
  obtain ⟨⟨a1, a2⟩, a3, a4, a5⟩ := hf
  have hp : 0 < 2 ^ lo := Nat.pow_pos (by omega)
  have hp2 : 2 ^ lo ≤ 2 ^ 60 := Nat.pow_le_pow_right (by omega) (by omega)
  have hm : m * 2 ^ lo ≤ 7 * 2 ^ 60 := Nat.mul_le_mul (by omega) hp2
  have hm0 : 0 < m * 2 ^ lo := Nat.mul_pos h2 hp
  refine ⟨by omega, by omega, ⟨a1, a2⟩, ?_, ?_⟩
  · rw [a3, Int.toNat_natCast, a5]
    refine ⟨?_, ?_, ?_⟩ <;> (repeat' split) <;> omega
  · rw [a4]
    repeat' split
    all_goals omega
theorem setF_few {t : TD} {h : Nat → Int} {p : Nat} (h0 : 0 ≤ t.slo p) : ∀ c : Nat, ∃ m : Nat, m < 2 ^ c ∧ t.setF h p c = ((m * 2 ^ (t.slo p).toNat : Nat) : Int)
  | 0 => ⟨0, by simp, by simp [TD.setF]⟩
  | c + 1 => by
    obtain ⟨m, h1, h2⟩ := setF_few h0 (t := t) (h := h) (p := p) c
    have e : (t.slo p + c).toNat = (t.slo p).toNat + c := by omega
    simp only [TD.setF, e]
    split
    · refine ⟨m + 2 ^ c, by rw [Nat.pow_succ]; omega, ?_⟩
      rw [h2, Nat.add_mul, ← Nat.pow_add, Nat.add_comm c]
      push_cast
      rfl
    · exact ⟨m, by rw [Nat.pow_succ]; omega, by rw [h2]; simp⟩
theorem set_few {t : TD} (hv : t.Valid) {h : Nat → Int} {p : Nat} (hp : p < t.nS) (hn : t.set h p ≠ 0) : isFew (t.set h p) := by
  have hs := hv.2.2.2.2.1 p hp
  simp only [TD.sandOk] at hs
  obtain ⟨m, h1, h2⟩ := setF_few (t := t) (h := h) hs.1.1 (t.shi p - t.slo p + 1).toNat
  have h3 : 2 ^ (t.shi p - t.slo p + 1).toNat ≤ 2 ^ 3 := Nat.pow_le_pow_right (by omega) (by omega)
  refine ⟨(t.slo p).toNat, m, by omega, ?_, by omega, h2⟩
  rcases Nat.eq_zero_or_pos m with rfl | hm
  · simp only [TD.set, h2] at hn
    simp at hn
  · exact hm
/-- What all truths bear. -/
def fullTr (t : TD) (x : Tr) : Prop := goodTr t x ∧ ∀ p, p < t.nS → isFew (x.s p)
theorem tls_full {t : TD} (hv : t.Valid) : ∀ (r : Nat) (h : Nat → Int), r ≤ t.nM → okH h → ∀ x ∈ t.tls r h, fullTr t x
  | 0, h, _, hh, x, hx => by
    simp only [TD.tls] at hx
    split at hx
    · rename_i hall
      simp at hx
      subst hx
      refine ⟨good_tr hv hh, fun p hp => ?_⟩
      have := allB_iff.1 hall p hp
      simp only [TD.tr, hp, if_true]
      exact set_few hv hp (by simpa using this)
    · simp at hx
  | r + 1, h, hr, hh, x, hx => by
    simp only [TD.tls] at hx
    obtain ⟨j, hj, hx⟩ := catF_mem hx
    have hm := hv.marks (i := t.nM - (r + 1)) (by omega)
    simp only [TD.markOk] at hm
    exact tls_full hv r _ (by omega) (okH_upd hh (by omega)) x hx
theorem all_full {t : TD} (hv : t.Valid) : ∀ x ∈ t.all, fullTr t x := tls_full hv t.nM (fun _ => 0) (Nat.le_refl _) (fun i => ⟨Int.le_refl _, by show (0 : Int) ≤ 60; decide⟩)
/-- Both ends of a set. -/
def loE (x : Int) : Int := tz64 x
def hiE (x : Int) : Int := Lib.bitLen x.toNat - 1
theorem t86 (x : Int) (hx : isFew x) : CallP Tryd.prog 86 [.int .u64 x] [some db] (Ret (.tup [.int .i64 (loE x), .int .i64 (hiE x)]) [some db]) := by
  obtain ⟨f1, f2, f3, f4, f5⟩ := few_facts hx
  refine callR (E := E) E_ok Tryd.func86 rfl ?_
  refine And.intro ?_ ?_
  · simp [AllP, under, gB, wB, inR_iff, IntKind.bits]
  refine (t116 x f1 f3.1 f3.2).use [0] ?_ (by (repeat' (first | exact trivial | exact rfl | exact fun _ _ => rfl | exact Or.inl rfl | refine And.intro ?_ ?_))) rfl
  refine And.intro ?_ ?_
  · simp [AllP, under, gB, wB, inR_iff, IntKind.bits]
  refine (t117 x f2.1 f2.2).use [] ?_ (by (repeat' (first | exact trivial | exact rfl | exact fun _ _ => rfl | exact Or.inl rfl | refine And.intro ?_ ?_))) rfl
  refine And.intro ?_ ?_
  · simp [AllP, under, gB, wB, inR_iff, IntKind.bits]
    omega
  exact ent_tau [0] ⟨by (repeat' (first | exact trivial | exact rfl | exact fun _ _ => rfl | exact Or.inl rfl | refine And.intro ?_ ?_)), by (repeat' (first | exact trivial | exact rfl | exact congrArg (SV.int .i64) (Int.natCast_succ _).symm | refine And.intro ?_ ?_)), rfl⟩
end Go.Proofs.YtipbempkngfdbaaDoor
