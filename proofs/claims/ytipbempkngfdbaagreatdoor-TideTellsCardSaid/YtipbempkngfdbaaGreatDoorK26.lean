/-
  Parts: G6, G7, G8, C6, G11.
-/
import Derived.Test.YtipbempkngfdbaaGreatDoorK25
import Derived.Test.YtipbempkngfdbaaGreatDoorK16
set_option linter.unusedVariables false
/-
  Contract: dipworksref01.truths.
-/
namespace Go.Proofs.YtipbempkngfdbaaGreatDoor
open Go Go.Sy
set_option linter.unusedSimpArgs false
set_option maxRecDepth 100000
set_option maxHeartbeats 4000000
attribute [local irreducible] CallP CodeP Ent YieldP

def K69 (t : TD) (X : List Tru) : CE → SHeap → Prop := fun ce h' =>
  (X = [] ∧ ce = .ret .snil ∧ h' = t.H) ∨
  (X ≠ [] ∧ ∃ (c : Nat) (ia ib ca cb : Nat → Nat), Idx t X ia ib ∧ (X.length ≤ c ∧ c ≤ 9223372036854775807) ∧ ce = .ret (.slice 3 2 0 X.length c) ∧ h' = t.H ++ [some (.arr 2 X.length c (rowsT 4 5 t.nM t.nS ia ib ca cb)), some (poolL true t.nM t.hts), some (poolL true t.nS t.sds)])
theorem t110s {N cN : Nat} {lo hi : Nat → Int} (hN : N ≤ 4) (hlh : ∀ i, i < N → 0 ≤ lo i ∧ lo i ≤ hi i ∧ hi i ≤ 60) (hN1 : 1 ≤ N) (g : Nat → Int) (hlen : (lsts lo hi N N g).length ≤ 100000) :
    CallP Tryz.prog 102 [.slice 0 2 0 N cN, .snil, .snil] [some (.roa 2 N (row2 lo hi))] (K110c N lo hi (lsts lo hi N N g)) :=
  CallP.argsD (fun η => by simp [denL, den]) (t110c (cN := cN) (bl := true) hN hlh hN1 g hlen)
theorem row2_push {σ : Nat → Nat} {lo hi : Nat → Int} {n k : Nat} (hk : k < n + 1) {b : Nat → List SV} (h2 : b 0 = row2 lo hi n) : selL (decide (k < n)) (row2 lo hi k) (b (0 + (k - n))) = renL σ (row2 lo hi k) := by
  rcases Nat.lt_succ_iff_lt_or_eq.1 hk with h | rfl
  · rw [decide_eq_true h, selL_true]
    rfl
  · rw [decide_eq_false (Nat.lt_irrefl _), selL_false, Nat.sub_self, h2]
    rfl
noncomputable def HL (t : TD) (cA cB : Nat) (cpA cpB : Nat → Nat) : SHeap := t.H ++ [some (.cells [.osl t.bM 0 3 t.nM t.cM, .osl t.bS 1 2 t.nS t.cS, .osl t.bL 2 4 t.nL t.cL]), some (.arr 1 t.hts.length cA (rowsC 5 t.nM cpA)), some (poolL true t.nM t.hts), some (.arr 1 t.sds.length cB (rowsC 7 t.nS cpB)), some (poolL true t.nS t.sds)]
/-- What is known in the loops. -/
structure IT (t : TD) (so : Int) (i k n c : Nat) (ia ib : Nat → Nat) : Prop where
  len : n = (preT t so i k).length
  idx : Idx t (preT t so i k) ia ib
  cap : 0 < n → n ≤ c ∧ c ≤ 9223372036854775807
  bnd : n ≤ 81 * i + k
theorem it_zero (t : TD) (so : Int) : IT t so 0 0 0 0 (fun _ => 0) (fun _ => 0) := by
  refine ⟨by rw [preT_zero]; rfl, ?_, fun h => absurd h (Nat.lt_irrefl 0), Nat.zero_le _⟩
  rw [preT_zero]
  exact Idx.none t _ _
theorem IT.row {t : TD} {so : Int} {i n c : Nat} {ia ib : Nat → Nat} (h : IT t so i t.sds.length n c ia ib) (hv : t.Valid) (hi : i < t.hts.length) : IT t so (i + 1) 0 n c ia ib := by
  have := sds_len hv
  have hb := h.bnd
  exact ⟨by rw [← preT_row hi]; exact h.len, by rw [← preT_row hi]; exact h.idx, h.cap, by omega⟩
theorem IT.no {t : TD} {so : Int} {i k n c : Nat} {ia ib : Nat → Nat} (h : IT t so i k n c ia ib) (hk : k < t.sds.length) (hr : t.rightS so (hrow t.hts i) (hrow t.sds k) = false) : IT t so i (k + 1) n c ia ib :=
  ⟨by rw [preT_f hk hr]; exact h.len, by rw [preT_f hk hr]; exact h.idx, h.cap, Nat.le_succ_of_le h.bnd⟩
theorem IT.yes {t : TD} {so : Int} {i k n c c' : Nat} {ia ib : Nat → Nat} (h : IT t so i k n c ia ib) (hi : i < t.hts.length) (hk : k < t.sds.length) (hr : t.rightS so (hrow t.hts i) (hrow t.sds k) = true) (hc : n + 1 ≤ c' ∧ c' ≤ 9223372036854775807) :
    IT t so i (k + 1) (n + 1) c' (ext ia n i) (ext ib n k) := by
  have hl := h.len
  have hb := h.bnd
  refine ⟨by rw [preT_t hk hr, List.length_append, List.length_singleton, ← hl], ?_, fun _ => hc, by omega⟩
  rw [preT_t hk hr, hl]
  exact h.idx.push hi hk
theorem t69 (t : TD) (hv : t.Valid) (so : Int) (hso : 0 ≤ so ∧ so ≤ 64) : CallP Tryz.prog 96 [t.A, .int .i64 so] t.H (K69 t (t.truS so)) := by
  have hM := hv.1
  have hS := hv.2.1
  have lA := hts_len hv
  have lB := sds_len hv
  have hmk : ∀ i, i < t.nM → 0 ≤ t.mlo i ∧ t.mlo i ≤ t.mhi i ∧ t.mhi i ≤ 60 := fun i hi => (hv.2.2.2.1 i hi).2.1
  have hsd : ∀ i, i < t.nS → 0 ≤ t.slo i ∧ t.slo i ≤ t.shi i ∧ t.shi i ≤ 60 := fun i hi => (hv.2.2.2.2.1 i hi).1
  refine callK (E := E) E_ok Tryz.func96 rfl ?_
  refine And.intro ?_ ?_
  · (repeat' (first | exact trivial | exact fun _ => rfl | exact rfl | refine And.intro ?_ ?_))
  refine loopP E_ok [1, 2, 4] (fun g : Nat × Nat => [(5, match g.1 with | 0 => .snil | _ + 1 => .slice 4 2 0 g.1 g.2), (6, .int .i64 g.1)])
    (fun g _ => match g.1 with
      | 0 => t.H ++ [some (.cells [.osl t.bM 0 3 t.nM t.cM, .osl t.bS 1 2 t.nS t.cS, .osl t.bL 2 4 t.nL t.cL])]
      | _ + 1 => t.H ++ [some (.cells [.osl t.bM 0 3 t.nM t.cM, .osl t.bS 1 2 t.nS t.cS, .osl t.bL 2 4 t.nL t.cL]), some (.arr 2 g.1 g.2 (row2 t.mlo t.mhi))])
    (fun g => g.1 ≤ t.nM ∧ (0 < g.1 → g.1 ≤ g.2 ∧ g.2 ≤ 9223372036854775807)) (fun g => t.nM - g.1) (0, 0) ⟨Nat.zero_le _, fun h => absurd h (Nat.lt_irrefl 0)⟩ ?_ ?_
  · refine ent_tau [0, 1, 2, 3] ⟨?_, ?_, rfl⟩
    · (repeat' (first | exact trivial | exact rfl | exact fun _ _ => rfl | exact fun _ _ _ _ => rfl | exact Or.inl rfl | exact Or.inr rfl | refine And.intro ?_ ?_))
    · (repeat' (first | exact trivial | exact rfl | exact congrArg (SV.int .i64) (Int.natCast_succ _).symm | refine And.intro ?_ ?_))
  rintro ⟨i, c⟩ ⟨hi, hc⟩
  simp only at hi hc
  cases i with
  | zero =>
    refine And.intro ?_ (And.intro (fun hcc => ?_) (fun hcc => ?_))
    · (repeat' (first | exact trivial | exact fun _ => rfl | exact rfl | refine And.intro ?_ ?_))
    · (repeat' (first | exact trivial | exact fun _ => rfl | exact rfl | refine And.intro ?_ ?_))
      all_goals first | omega | exact un (by omega) | exact one1L rfl | decide | (show 1 * 16 ≤ 140737488355328; omega) | skip
      intro c1 h1 h2
      refine And.intro ?_ ?_
      · (repeat' (first | exact trivial | exact fun _ => rfl | exact rfl | refine And.intro ?_ ?_))
        all_goals (simp only; omega)
      refine ⟨(0 + 1, c1), ⟨by simp only; omega, fun _ => ⟨h1, h2⟩⟩, by simp only; omega, ?_⟩
      refine ent_tau [0, 1, 2, 3, 5] ⟨?_, ?_, rfl⟩
      · (repeat' (first | exact trivial | exact rfl | exact fun _ _ => rfl | exact fun _ _ _ _ => rfl | exact Or.inl rfl | exact Or.inr rfl | refine And.intro ?_ ?_))
        exact fun k hk => by
          obtain rfl : k = 0 := Nat.lt_one_iff.1 hk
          rfl
      · (repeat' (first | exact trivial | exact rfl | exact congrArg (SV.int .i64) (Int.natCast_succ _).symm | refine And.intro ?_ ?_))
    · have := of_decide_eq_false hcc
      omega
  | succ i =>
    obtain ⟨hca, hcb⟩ := hc (Nat.succ_pos i)
    refine And.intro ?_ (And.intro (fun hcc => ?_) (fun hcc => ?_))
    · (repeat' (first | exact trivial | exact fun _ => rfl | exact rfl | refine And.intro ?_ ?_))
    · have hlt : i + 1 < t.nM := by
        have := of_decide_eq_true hcc
        omega
      have e2 : 0 + ((i + 1 : Nat) : Int).toNat = i + 1 := by omega
      (repeat' (first | exact trivial | exact fun _ => rfl | exact rfl | refine And.intro ?_ ?_))
      all_goals first | omega | exact un (by omega) | exact one1L rfl | exact Nat.le_refl _ | decide | (show (i + 1 + 1) * 16 ≤ 140737488355328; omega) | skip
      intro c1 h1 h2
      refine And.intro ?_ ?_
      · (repeat' (first | exact trivial | exact fun _ => rfl | exact rfl | refine And.intro ?_ ?_))
        all_goals (simp only; omega)
      refine ⟨(i + 1 + 1, c1), ⟨hlt, fun _ => ⟨h1, h2⟩⟩, by simp only; omega, ?_⟩
      refine ent_tau [0, 1, 2, 3, 6] ⟨?_, ?_, rfl⟩
      · (repeat' (first | exact trivial | exact rfl | exact fun _ _ => rfl | exact fun _ _ _ _ => rfl | exact Or.inl rfl | exact Or.inr rfl | refine And.intro ?_ ?_))
        exact fun k hk => row2_push hk (by rw [show row2 t.mlo t.mhi (i + 1) = row2 t.mlo t.mhi (0 + ((i + 1 : Nat) : Int).toNat) by rw [e2]]; rfl)
      · (repeat' (first | exact trivial | exact rfl | exact congrArg (SV.int .i64) (Int.natCast_succ _).symm | refine And.intro ?_ ?_))
    · have e : i + 1 = t.nM := by
        have := of_decide_eq_false hcc
        omega
      rw [e] at hca ⊢
      refine And.intro trivial ?_
      refine And.intro trivial ?_
      refine cutP [] [(1, .int .i64 so), (2, .ptr 3 0), (4, .snil), (5, .slice 4 2 0 t.nM c)] (fun _ => t.H ++ [some (.cells [.osl t.bM 0 3 t.nM t.cM, .osl t.bS 1 2 t.nS t.cS, .osl t.bL 2 4 t.nL t.cL]), some (.arr 2 t.nM c (row2 t.mlo t.mhi))]) ?_ ?_
      · refine ent_tau [0, 1, 2, 3, 4] ⟨?_, ?_, rfl⟩
        · (repeat' (first | exact trivial | exact rfl | exact fun _ _ => rfl | exact fun _ _ _ _ => rfl | exact Or.inl rfl | exact Or.inr rfl | refine And.intro ?_ ?_))
        · (repeat' (first | exact trivial | exact rfl | exact congrArg (SV.int .i64) (Int.natCast_succ _).symm | refine And.intro ?_ ?_))
      refine drawP E_ok [3] pl96_6 (by kernel_rfl) ?_
      refine And.intro (And.intro ?_ ?_) trivial
      · (repeat' (first | exact True.intro | exact d1 _ | exact d1t _ | exact d2 _ | exact d3 _ _ | exact d3f _ _ | exact fun _ _ => rfl | exact fun _ => rfl | exact rfl | refine And.intro ?_ ?_))
      refine CallP.frameH (t110s (cN := c) (by omega) hmk (by omega) (fun _ => 0) (Nat.le_trans lA (by decide))) [4] (by (repeat' (first | exact trivial | exact rfl | exact fun _ _ => rfl | exact Or.inl rfl | refine And.intro ?_ ?_))) rfl ?_
      rintro ce h' ⟨cA, cpA, hA, rfl, rfl⟩
      refine ⟨rfl, ?_⟩
      refine And.intro (And.intro ?_ ?_) trivial
      · (repeat' (first | exact True.intro | exact d1 _ | exact d1t _ | exact d2 _ | exact d3 _ _ | exact d3f _ _ | exact fun _ _ => rfl | exact fun _ => rfl | exact rfl | refine And.intro ?_ ?_))
      refine CallP.frameH (t110c (cN := t.cS) (bl := t.bS) (by omega) hsd (by omega) (fun _ => 0) (Nat.le_trans lB (by decide))) [1] (by (repeat' (first | exact trivial | exact rfl | exact fun _ _ => rfl | exact Or.inl rfl | refine And.intro ?_ ?_))) rfl ?_
      rintro ce h' ⟨cB, cpB, hB, rfl, rfl⟩
      refine ⟨rfl, ?_⟩
      refine And.intro ?_ ?_
      · (repeat' (first | exact True.intro | exact d1 _ | exact d1t _ | exact d2 _ | exact d3 _ _ | exact d3f _ _ | exact fun _ _ => rfl | exact fun _ => rfl | exact rfl | refine And.intro ?_ ?_))
      refine And.intro rfl ?_
      refine And.intro trivial ?_
      clear hcc e hca hcb hc hi
      refine cutP [] [(1, .int .i64 so), (2, .ptr 3 0), (4, .snil), (7, .slice 4 1 0 t.hts.length cA), (8, .slice 6 1 0 t.sds.length cB), (9, .snil), (10, .int .i64 (0 : Nat))] (fun _ => HL t cA cB cpA cpB) ?_ ?_
      · refine ent_tau [0, 1, 2, 3, 5, 6, 7, 8] ⟨?_, ?_, rfl⟩
        · (repeat' (first | exact trivial | exact rfl | exact fun _ _ => rfl | exact fun _ _ _ _ => rfl | exact Or.inl rfl | exact Or.inr rfl | refine And.intro ?_ ?_))
        · (repeat' (first | exact trivial | exact rfl | exact congrArg (SV.int .i64) (Int.natCast_succ _).symm | refine And.intro ?_ ?_))
      refine loopP E_ok [1, 2, 4, 7, 8] (fun g : Nat × Nat × Nat × (Nat → Nat) × (Nat → Nat) × (Nat → Nat) × (Nat → Nat) => [(9, match g.2.1 with | 0 => .snil | _ + 1 => .slice 8 2 0 g.2.1 g.2.2.1), (10, .int .i64 g.1)])
        (fun g _ => match g.2.1 with | 0 => HL t cA cB cpA cpB | _ + 1 => HL t cA cB cpA cpB ++ [some (.arr 2 g.2.1 g.2.2.1 (rowsT 5 7 t.nM t.nS g.2.2.2.1 g.2.2.2.2.1 g.2.2.2.2.2.1 g.2.2.2.2.2.2))])
        (fun g => g.1 ≤ t.hts.length ∧ IT t so g.1 0 g.2.1 g.2.2.1 g.2.2.2.1 g.2.2.2.2.1) (fun g => t.hts.length - g.1)
        (0, 0, 0, fun _ => 0, fun _ => 0, fun _ => 0, fun _ => 0) ⟨Nat.zero_le _, it_zero t so⟩ ?_ ?_
      · refine ent_tau [0, 1, 2, 3, 4, 5, 6, 7] ⟨?_, ?_, rfl⟩
        · (repeat' (first | exact trivial | exact rfl | exact fun _ _ => rfl | exact fun _ _ _ _ => rfl | exact Or.inl rfl | exact Or.inr rfl | refine And.intro ?_ ?_))
        · (repeat' (first | exact trivial | exact rfl | exact congrArg (SV.int .i64) (Int.natCast_succ _).symm | refine And.intro ?_ ?_))
      rintro ⟨i, n, c, ia, ib, ca, cb⟩ ⟨hi, hI⟩
      simp only at hi hI
      cases n with
      | zero =>
        refine And.intro ?_ (And.intro (fun hcc => ?_) (fun hcc => ?_))
        · (repeat' (first | exact trivial | exact fun _ => rfl | exact rfl | refine And.intro ?_ ?_))
        · have hlt : i < t.hts.length := by
            have := of_decide_eq_true hcc
            omega
          refine And.intro trivial ?_
          refine loopP E_ok [1, 2, 4, 7, 8, 10] (fun g : Nat × Nat × Nat × (Nat → Nat) × (Nat → Nat) × (Nat → Nat) × (Nat → Nat) => [(9, match g.2.1 with | 0 => .snil | _ + 1 => .slice 8 2 0 g.2.1 g.2.2.1), (11, .int .i64 g.1)])
            (fun g _ => match g.2.1 with | 0 => HL t cA cB cpA cpB | _ + 1 => HL t cA cB cpA cpB ++ [some (.arr 2 g.2.1 g.2.2.1 (rowsT 5 7 t.nM t.nS g.2.2.2.1 g.2.2.2.2.1 g.2.2.2.2.2.1 g.2.2.2.2.2.2))])
            (fun g => g.1 ≤ t.sds.length ∧ IT t so i g.1 g.2.1 g.2.2.1 g.2.2.2.1 g.2.2.2.2.1) (fun g => t.sds.length - g.1)
            (0, 0, c, ia, ib, ca, cb) ⟨Nat.zero_le _, hI⟩ ?_ ?_
          · refine ent_tau [0, 1, 2, 3, 4, 5, 6, 7] ⟨?_, ?_, rfl⟩
            · (repeat' (first | exact trivial | exact rfl | exact fun _ _ => rfl | exact fun _ _ _ _ => rfl | exact Or.inl rfl | exact Or.inr rfl | refine And.intro ?_ ?_))
            · (repeat' (first | exact trivial | exact rfl | exact congrArg (SV.int .i64) (Int.natCast_succ _).symm | refine And.intro ?_ ?_))
          clear hI hcc
          rintro ⟨k, n, c, ia, ib, ca, cb⟩ ⟨hk, hI⟩
          simp only at hk hI
          have hib := hI.bnd
          have e1 : 0 + ((i : Nat) : Int).toNat = i := by omega
          have e2 : 0 + ((k : Nat) : Int).toNat = k := by omega
          have c111 : k < t.sds.length → CallP Tryz.prog 103 [t.A, .agg [.row 3 (0 + ((i : Nat) : Int).toNat) t.nM (cpA (0 + ((i : Nat) : Int).toNat)), .row 4 (0 + ((k : Nat) : Int).toNat) t.nS (cpB (0 + ((k : Nat) : Int).toNat))], .int .i64 so] (HP t) (Ret (.bool (t.rightS so (hrow t.hts i) (hrow t.sds k))) (HP t)) := fun hkl => by
            rw [e1, e2]
            exact t111r t hv hlt hkl (cpA i) (cpB k) so hso
          cases n with
          | zero =>
            refine And.intro ?_ (And.intro (fun hkk => ?_) (fun hkk => ?_))
            · (repeat' (first | exact trivial | exact fun _ => rfl | exact rfl | refine And.intro ?_ ?_))
            · have hkl : k < t.sds.length := by
                have := of_decide_eq_true hkk
                omega
              refine And.intro trivial ?_
              refine drawP E_ok [4, 6] pl96_14 (by kernel_rfl) ?_
              (repeat' (first | exact trivial | exact fun _ => rfl | exact rfl | refine And.intro ?_ ?_))
              all_goals first | exact un (by simp only; omega) | skip
              refine (c111 hkl).use [0, 1, 2, 5, 7] ?_ (by (repeat' (first | exact trivial | exact rfl | exact fun _ _ => rfl | exact fun _ _ _ _ => rfl | exact Or.inl rfl | exact Or.inr rfl | refine And.intro ?_ ?_))) rfl
              refine And.intro ?_ (And.intro (fun hr => ?_) (fun hr => ?_))
              · (repeat' (first | exact trivial | exact fun _ => rfl | exact rfl | refine And.intro ?_ ?_))
              · (repeat' (first | exact trivial | exact fun _ => rfl | exact rfl | refine And.intro ?_ ?_))
                all_goals first | decide | (show 1 * 48 ≤ 140737488355328; omega) | skip
                intro c3 h31 h32
                refine And.intro ?_ ?_
                · (repeat' (first | exact trivial | exact fun _ => rfl | exact rfl | refine And.intro ?_ ?_))
                  all_goals (simp only; omega)
                refine ⟨(k + 1, 0 + 1, c3, ext ia 0 (0 + ((i : Nat) : Int).toNat), ext ib 0 (0 + ((k : Nat) : Int).toNat), ext ca 0 (cpA (0 + ((i : Nat) : Int).toNat)), ext cb 0 (cpB (0 + ((k : Nat) : Int).toNat))), ⟨hkl, by rw [e1, e2]; exact hI.yes hlt hkl hr ⟨h31, h32⟩⟩, by simp only; omega, ?_⟩
                refine ent_tau [0, 1, 2, 3, 4, 5, 6, 7, 10] ⟨?_, ?_, rfl⟩
                · (repeat' (first | exact trivial | exact rfl | exact fun _ _ => rfl | exact fun _ _ _ _ => rfl | exact Or.inl rfl | exact Or.inr rfl | refine And.intro ?_ ?_))
                  exact fun q hq => by
                    obtain rfl : q = 0 := Nat.lt_one_iff.1 hq
                    rfl
                · (repeat' (first | exact trivial | exact rfl | exact congrArg (SV.int .i64) (Int.natCast_succ _).symm | refine And.intro ?_ ?_))
              · refine And.intro ?_ ?_
                · (repeat' (first | exact trivial | exact fun _ => rfl | exact rfl | refine And.intro ?_ ?_))
                  all_goals (simp only; omega)
                refine ⟨(k + 1, 0, c, ia, ib, ca, cb), ⟨hkl, hI.no hkl hr⟩, by simp only; omega, ?_⟩
                refine ent_tau [0, 1, 2, 3, 4, 5, 6, 7] ⟨?_, ?_, rfl⟩
                · (repeat' (first | exact trivial | exact rfl | exact fun _ _ => rfl | exact fun _ _ _ _ => rfl | exact Or.inl rfl | exact Or.inr rfl | refine And.intro ?_ ?_))
                · (repeat' (first | exact trivial | exact rfl | exact congrArg (SV.int .i64) (Int.natCast_succ _).symm | refine And.intro ?_ ?_))
            · have e : k = t.sds.length := by
                have := of_decide_eq_false hkk
                omega
              subst e
              have hR := hI.row hv hlt
              refine And.intro ?_ ?_
              · (repeat' (first | exact trivial | exact fun _ => rfl | exact rfl | refine And.intro ?_ ?_))
              refine And.intro ?_ ?_
              · (repeat' (first | exact trivial | exact fun _ => rfl | exact rfl | refine And.intro ?_ ?_))
                all_goals (simp only; omega)
              refine ⟨(i + 1, 0, c, ia, ib, ca, cb), ⟨hlt, hR⟩, by simp only; omega, ?_⟩
              refine ent_tau [0, 1, 2, 3, 4, 5, 6, 7] ⟨?_, ?_, rfl⟩
              · (repeat' (first | exact trivial | exact rfl | exact fun _ _ => rfl | exact fun _ _ _ _ => rfl | exact Or.inl rfl | exact Or.inr rfl | refine And.intro ?_ ?_))
              · (repeat' (first | exact trivial | exact rfl | exact congrArg (SV.int .i64) (Int.natCast_succ _).symm | refine And.intro ?_ ?_))
          | succ n =>
            obtain ⟨hc1, hc2⟩ := hI.cap (Nat.succ_pos n)
            refine And.intro ?_ (And.intro (fun hkk => ?_) (fun hkk => ?_))
            · (repeat' (first | exact trivial | exact fun _ => rfl | exact rfl | refine And.intro ?_ ?_))
            · have hkl : k < t.sds.length := by
                have := of_decide_eq_true hkk
                omega
              refine And.intro trivial ?_
              refine drawP E_ok [4, 6] pl96_14 (by kernel_rfl) ?_
              (repeat' (first | exact trivial | exact fun _ => rfl | exact rfl | refine And.intro ?_ ?_))
              all_goals first | exact un (by simp only; omega) | skip
              refine (c111 hkl).use [0, 1, 2, 5, 7] ?_ (by (repeat' (first | exact trivial | exact rfl | exact fun _ _ => rfl | exact fun _ _ _ _ => rfl | exact Or.inl rfl | exact Or.inr rfl | refine And.intro ?_ ?_))) rfl
              refine And.intro ?_ (And.intro (fun hr => ?_) (fun hr => ?_))
              · (repeat' (first | exact trivial | exact fun _ => rfl | exact rfl | refine And.intro ?_ ?_))
              · (repeat' (first | exact trivial | exact fun _ => rfl | exact rfl | refine And.intro ?_ ?_))
                all_goals first | exact Nat.le_refl _ | exact hc2 | exact one1L rfl | (show (n + 1 + 1) * 48 ≤ 140737488355328; omega) | skip
                intro c3 h31 h32
                refine And.intro ?_ ?_
                · (repeat' (first | exact trivial | exact fun _ => rfl | exact rfl | refine And.intro ?_ ?_))
                  all_goals (simp only; omega)
                refine ⟨(k + 1, (n + 1) + 1, c3, ext ia (n + 1) (0 + ((i : Nat) : Int).toNat), ext ib (n + 1) (0 + ((k : Nat) : Int).toNat), ext ca (n + 1) (cpA (0 + ((i : Nat) : Int).toNat)), ext cb (n + 1) (cpB (0 + ((k : Nat) : Int).toNat))), ⟨hkl, by rw [e1, e2]; exact hI.yes hlt hkl hr ⟨h31, h32⟩⟩, by simp only; omega, ?_⟩
                refine ent_tau [0, 1, 2, 3, 4, 5, 6, 7, 11] ⟨?_, ?_, rfl⟩
                · (repeat' (first | exact trivial | exact rfl | exact fun _ _ => rfl | exact fun _ _ _ _ => rfl | exact Or.inl rfl | exact Or.inr rfl | refine And.intro ?_ ?_))
                  exact fun q hq => sel_pushT hq (fun _ _ => rfl) rfl
                · (repeat' (first | exact trivial | exact rfl | exact congrArg (SV.int .i64) (Int.natCast_succ _).symm | refine And.intro ?_ ?_))
              · refine And.intro ?_ ?_
                · (repeat' (first | exact trivial | exact fun _ => rfl | exact rfl | refine And.intro ?_ ?_))
                  all_goals (simp only; omega)
                refine ⟨(k + 1, (n + 1), c, ia, ib, ca, cb), ⟨hkl, hI.no hkl hr⟩, by simp only; omega, ?_⟩
                refine ent_tau [0, 1, 2, 3, 4, 5, 6, 7, 8] ⟨?_, ?_, rfl⟩
                · (repeat' (first | exact trivial | exact rfl | exact fun _ _ => rfl | exact fun _ _ _ _ => rfl | exact Or.inl rfl | exact Or.inr rfl | refine And.intro ?_ ?_))
                · (repeat' (first | exact trivial | exact rfl | exact congrArg (SV.int .i64) (Int.natCast_succ _).symm | refine And.intro ?_ ?_))
            · have e : k = t.sds.length := by
                have := of_decide_eq_false hkk
                omega
              subst e
              have hR := hI.row hv hlt
              refine And.intro ?_ ?_
              · (repeat' (first | exact trivial | exact fun _ => rfl | exact rfl | refine And.intro ?_ ?_))
              refine And.intro ?_ ?_
              · (repeat' (first | exact trivial | exact fun _ => rfl | exact rfl | refine And.intro ?_ ?_))
                all_goals (simp only; omega)
              refine ⟨(i + 1, n + 1, c, ia, ib, ca, cb), ⟨hlt, hR⟩, by simp only; omega, ?_⟩
              refine ent_tau [0, 1, 2, 3, 4, 5, 6, 7, 8] ⟨?_, ?_, rfl⟩
              · (repeat' (first | exact trivial | exact rfl | exact fun _ _ => rfl | exact fun _ _ _ _ => rfl | exact Or.inl rfl | exact Or.inr rfl | refine And.intro ?_ ?_))
              · (repeat' (first | exact trivial | exact rfl | exact congrArg (SV.int .i64) (Int.natCast_succ _).symm | refine And.intro ?_ ?_))
        · have e : i = t.hts.length := by
            have := of_decide_eq_false hcc
            omega
          subst e
          have hl := hI.len
          have hx := hI.idx
          rw [preT_all] at hl hx
          (repeat' (first | exact trivial | exact fun _ => rfl | exact rfl | refine And.intro ?_ ?_))
          refine ⟨.ret .snil, t.H, .inl ⟨List.length_eq_zero_iff.1 hl.symm, rfl, rfl⟩, ?_⟩
          exact ent_tau [0, 1, 2] ⟨by (repeat' (first | exact trivial | exact rfl | exact fun _ _ => rfl | exact Or.inl rfl | refine And.intro ?_ ?_)), by (repeat' (first | exact trivial | exact rfl | exact congrArg (SV.int .i64) (Int.natCast_succ _).symm | refine And.intro ?_ ?_)), rfl⟩
      | succ n =>
        refine And.intro ?_ (And.intro (fun hcc => ?_) (fun hcc => ?_))
        · (repeat' (first | exact trivial | exact fun _ => rfl | exact rfl | refine And.intro ?_ ?_))
        · have hlt : i < t.hts.length := by
            have := of_decide_eq_true hcc
            omega
          refine And.intro trivial ?_
          refine loopP E_ok [1, 2, 4, 7, 8, 10] (fun g : Nat × Nat × Nat × (Nat → Nat) × (Nat → Nat) × (Nat → Nat) × (Nat → Nat) => [(9, match g.2.1 with | 0 => .snil | _ + 1 => .slice 8 2 0 g.2.1 g.2.2.1), (11, .int .i64 g.1)])
            (fun g _ => match g.2.1 with | 0 => HL t cA cB cpA cpB | _ + 1 => HL t cA cB cpA cpB ++ [some (.arr 2 g.2.1 g.2.2.1 (rowsT 5 7 t.nM t.nS g.2.2.2.1 g.2.2.2.2.1 g.2.2.2.2.2.1 g.2.2.2.2.2.2))])
            (fun g => g.1 ≤ t.sds.length ∧ IT t so i g.1 g.2.1 g.2.2.1 g.2.2.2.1 g.2.2.2.2.1) (fun g => t.sds.length - g.1)
            (0, n + 1, c, ia, ib, ca, cb) ⟨Nat.zero_le _, hI⟩ ?_ ?_
          · refine ent_tau [0, 1, 2, 3, 4, 5, 6, 7, 8] ⟨?_, ?_, rfl⟩
            · (repeat' (first | exact trivial | exact rfl | exact fun _ _ => rfl | exact fun _ _ _ _ => rfl | exact Or.inl rfl | exact Or.inr rfl | refine And.intro ?_ ?_))
            · (repeat' (first | exact trivial | exact rfl | exact congrArg (SV.int .i64) (Int.natCast_succ _).symm | refine And.intro ?_ ?_))
          clear hI hcc
          rintro ⟨k, n, c, ia, ib, ca, cb⟩ ⟨hk, hI⟩
          simp only at hk hI
          have hib := hI.bnd
          have e1 : 0 + ((i : Nat) : Int).toNat = i := by omega
          have e2 : 0 + ((k : Nat) : Int).toNat = k := by omega
          have c111 : k < t.sds.length → CallP Tryz.prog 103 [t.A, .agg [.row 3 (0 + ((i : Nat) : Int).toNat) t.nM (cpA (0 + ((i : Nat) : Int).toNat)), .row 4 (0 + ((k : Nat) : Int).toNat) t.nS (cpB (0 + ((k : Nat) : Int).toNat))], .int .i64 so] (HP t) (Ret (.bool (t.rightS so (hrow t.hts i) (hrow t.sds k))) (HP t)) := fun hkl => by
            rw [e1, e2]
            exact t111r t hv hlt hkl (cpA i) (cpB k) so hso
          cases n with
          | zero =>
            refine And.intro ?_ (And.intro (fun hkk => ?_) (fun hkk => ?_))
            · (repeat' (first | exact trivial | exact fun _ => rfl | exact rfl | refine And.intro ?_ ?_))
            · have hkl : k < t.sds.length := by
                have := of_decide_eq_true hkk
                omega
              refine And.intro trivial ?_
              refine drawP E_ok [4, 6] pl96_14 (by kernel_rfl) ?_
              (repeat' (first | exact trivial | exact fun _ => rfl | exact rfl | refine And.intro ?_ ?_))
              all_goals first | exact un (by simp only; omega) | skip
              refine (c111 hkl).use [0, 1, 2, 5, 7] ?_ (by (repeat' (first | exact trivial | exact rfl | exact fun _ _ => rfl | exact fun _ _ _ _ => rfl | exact Or.inl rfl | exact Or.inr rfl | refine And.intro ?_ ?_))) rfl
              refine And.intro ?_ (And.intro (fun hr => ?_) (fun hr => ?_))
              · (repeat' (first | exact trivial | exact fun _ => rfl | exact rfl | refine And.intro ?_ ?_))
              · (repeat' (first | exact trivial | exact fun _ => rfl | exact rfl | refine And.intro ?_ ?_))
                all_goals first | decide | (show 1 * 48 ≤ 140737488355328; omega) | skip
                intro c3 h31 h32
                refine And.intro ?_ ?_
                · (repeat' (first | exact trivial | exact fun _ => rfl | exact rfl | refine And.intro ?_ ?_))
                  all_goals (simp only; omega)
                refine ⟨(k + 1, 0 + 1, c3, ext ia 0 (0 + ((i : Nat) : Int).toNat), ext ib 0 (0 + ((k : Nat) : Int).toNat), ext ca 0 (cpA (0 + ((i : Nat) : Int).toNat)), ext cb 0 (cpB (0 + ((k : Nat) : Int).toNat))), ⟨hkl, by rw [e1, e2]; exact hI.yes hlt hkl hr ⟨h31, h32⟩⟩, by simp only; omega, ?_⟩
                refine ent_tau [0, 1, 2, 3, 4, 5, 6, 7, 10] ⟨?_, ?_, rfl⟩
                · (repeat' (first | exact trivial | exact rfl | exact fun _ _ => rfl | exact fun _ _ _ _ => rfl | exact Or.inl rfl | exact Or.inr rfl | refine And.intro ?_ ?_))
                  exact fun q hq => by
                    obtain rfl : q = 0 := Nat.lt_one_iff.1 hq
                    rfl
                · (repeat' (first | exact trivial | exact rfl | exact congrArg (SV.int .i64) (Int.natCast_succ _).symm | refine And.intro ?_ ?_))
              · refine And.intro ?_ ?_
                · (repeat' (first | exact trivial | exact fun _ => rfl | exact rfl | refine And.intro ?_ ?_))
                  all_goals (simp only; omega)
                refine ⟨(k + 1, 0, c, ia, ib, ca, cb), ⟨hkl, hI.no hkl hr⟩, by simp only; omega, ?_⟩
                refine ent_tau [0, 1, 2, 3, 4, 5, 6, 7] ⟨?_, ?_, rfl⟩
                · (repeat' (first | exact trivial | exact rfl | exact fun _ _ => rfl | exact fun _ _ _ _ => rfl | exact Or.inl rfl | exact Or.inr rfl | refine And.intro ?_ ?_))
                · (repeat' (first | exact trivial | exact rfl | exact congrArg (SV.int .i64) (Int.natCast_succ _).symm | refine And.intro ?_ ?_))
            · have e : k = t.sds.length := by
                have := of_decide_eq_false hkk
                omega
              subst e
              have hR := hI.row hv hlt
              refine And.intro ?_ ?_
              · (repeat' (first | exact trivial | exact fun _ => rfl | exact rfl | refine And.intro ?_ ?_))
              refine And.intro ?_ ?_
              · (repeat' (first | exact trivial | exact fun _ => rfl | exact rfl | refine And.intro ?_ ?_))
                all_goals (simp only; omega)
              refine ⟨(i + 1, 0, c, ia, ib, ca, cb), ⟨hlt, hR⟩, by simp only; omega, ?_⟩
              refine ent_tau [0, 1, 2, 3, 4, 5, 6, 7] ⟨?_, ?_, rfl⟩
              · (repeat' (first | exact trivial | exact rfl | exact fun _ _ => rfl | exact fun _ _ _ _ => rfl | exact Or.inl rfl | exact Or.inr rfl | refine And.intro ?_ ?_))
              · (repeat' (first | exact trivial | exact rfl | exact congrArg (SV.int .i64) (Int.natCast_succ _).symm | refine And.intro ?_ ?_))
          | succ n =>
            obtain ⟨hc1, hc2⟩ := hI.cap (Nat.succ_pos n)
            refine And.intro ?_ (And.intro (fun hkk => ?_) (fun hkk => ?_))
            · (repeat' (first | exact trivial | exact fun _ => rfl | exact rfl | refine And.intro ?_ ?_))
            · have hkl : k < t.sds.length := by
                have := of_decide_eq_true hkk
                omega
              refine And.intro trivial ?_
              refine drawP E_ok [4, 6] pl96_14 (by kernel_rfl) ?_
              (repeat' (first | exact trivial | exact fun _ => rfl | exact rfl | refine And.intro ?_ ?_))
              all_goals first | exact un (by simp only; omega) | skip
              refine (c111 hkl).use [0, 1, 2, 5, 7] ?_ (by (repeat' (first | exact trivial | exact rfl | exact fun _ _ => rfl | exact fun _ _ _ _ => rfl | exact Or.inl rfl | exact Or.inr rfl | refine And.intro ?_ ?_))) rfl
              refine And.intro ?_ (And.intro (fun hr => ?_) (fun hr => ?_))
              · (repeat' (first | exact trivial | exact fun _ => rfl | exact rfl | refine And.intro ?_ ?_))
              · (repeat' (first | exact trivial | exact fun _ => rfl | exact rfl | refine And.intro ?_ ?_))
                all_goals first | exact Nat.le_refl _ | exact hc2 | exact one1L rfl | (show (n + 1 + 1) * 48 ≤ 140737488355328; omega) | skip
                intro c3 h31 h32
                refine And.intro ?_ ?_
                · (repeat' (first | exact trivial | exact fun _ => rfl | exact rfl | refine And.intro ?_ ?_))
                  all_goals (simp only; omega)
                refine ⟨(k + 1, (n + 1) + 1, c3, ext ia (n + 1) (0 + ((i : Nat) : Int).toNat), ext ib (n + 1) (0 + ((k : Nat) : Int).toNat), ext ca (n + 1) (cpA (0 + ((i : Nat) : Int).toNat)), ext cb (n + 1) (cpB (0 + ((k : Nat) : Int).toNat))), ⟨hkl, by rw [e1, e2]; exact hI.yes hlt hkl hr ⟨h31, h32⟩⟩, by simp only; omega, ?_⟩
                refine ent_tau [0, 1, 2, 3, 4, 5, 6, 7, 11] ⟨?_, ?_, rfl⟩
                · (repeat' (first | exact trivial | exact rfl | exact fun _ _ => rfl | exact fun _ _ _ _ => rfl | exact Or.inl rfl | exact Or.inr rfl | refine And.intro ?_ ?_))
                  exact fun q hq => sel_pushT hq (fun _ _ => rfl) rfl
                · (repeat' (first | exact trivial | exact rfl | exact congrArg (SV.int .i64) (Int.natCast_succ _).symm | refine And.intro ?_ ?_))
              · refine And.intro ?_ ?_
                · (repeat' (first | exact trivial | exact fun _ => rfl | exact rfl | refine And.intro ?_ ?_))
                  all_goals (simp only; omega)
                refine ⟨(k + 1, (n + 1), c, ia, ib, ca, cb), ⟨hkl, hI.no hkl hr⟩, by simp only; omega, ?_⟩
                refine ent_tau [0, 1, 2, 3, 4, 5, 6, 7, 8] ⟨?_, ?_, rfl⟩
                · (repeat' (first | exact trivial | exact rfl | exact fun _ _ => rfl | exact fun _ _ _ _ => rfl | exact Or.inl rfl | exact Or.inr rfl | refine And.intro ?_ ?_))
                · (repeat' (first | exact trivial | exact rfl | exact congrArg (SV.int .i64) (Int.natCast_succ _).symm | refine And.intro ?_ ?_))
            · have e : k = t.sds.length := by
                have := of_decide_eq_false hkk
                omega
              subst e
              have hR := hI.row hv hlt
              refine And.intro ?_ ?_
              · (repeat' (first | exact trivial | exact fun _ => rfl | exact rfl | refine And.intro ?_ ?_))
              refine And.intro ?_ ?_
              · (repeat' (first | exact trivial | exact fun _ => rfl | exact rfl | refine And.intro ?_ ?_))
                all_goals (simp only; omega)
              refine ⟨(i + 1, n + 1, c, ia, ib, ca, cb), ⟨hlt, hR⟩, by simp only; omega, ?_⟩
              refine ent_tau [0, 1, 2, 3, 4, 5, 6, 7, 8] ⟨?_, ?_, rfl⟩
              · (repeat' (first | exact trivial | exact rfl | exact fun _ _ => rfl | exact fun _ _ _ _ => rfl | exact Or.inl rfl | exact Or.inr rfl | refine And.intro ?_ ?_))
              · (repeat' (first | exact trivial | exact rfl | exact congrArg (SV.int .i64) (Int.natCast_succ _).symm | refine And.intro ?_ ?_))
        · have e : i = t.hts.length := by
            have := of_decide_eq_false hcc
            omega
          subst e
          have hl := hI.len
          have hx := hI.idx
          rw [preT_all] at hl hx
          (repeat' (first | exact trivial | exact fun _ => rfl | exact rfl | refine And.intro ?_ ?_))
          obtain ⟨h1, h2⟩ := hI.cap (Nat.succ_pos n)
          refine ⟨.ret (.slice 3 2 0 (n + 1) c), t.H ++ [some (.arr 2 (n + 1) c (rowsT 4 5 t.nM t.nS ia ib ca cb)), some (poolL true t.nM t.hts), some (poolL true t.nS t.sds)], .inr ⟨fun h => ?_, c, ia, ib, ca, cb, hx, ⟨?_, h2⟩, ?_, ?_⟩, ?_⟩
          · rw [h] at hl
            exact absurd hl (Nat.succ_ne_zero n)
          · rw [← hl]
            exact h1
          · rw [← hl]
          · rw [← hl]
          refine ent_tau [0, 1, 2, 8, 5, 7] ⟨?_, ?_, rfl⟩
          · (repeat' (first | exact trivial | exact rfl | exact fun _ _ => rfl | exact fun _ _ _ _ => rfl | exact Or.inl rfl | exact Or.inr rfl | refine And.intro ?_ ?_))
          · (repeat' (first | exact trivial | exact rfl | exact congrArg (SV.int .i64) (Int.natCast_succ _).symm | refine And.intro ?_ ?_))
end Go.Proofs.YtipbempkngfdbaaGreatDoor
/-
  Contracts of the specification: Truths, told, depth.
-/
namespace Go.Proofs.YtipbempkngfdbaaGreatDoor
open Go Go.Sy
set_option linter.unusedSimpArgs false
set_option maxRecDepth 100000
set_option maxHeartbeats 4000000
attribute [local irreducible] CallP CodeP Ent YieldP

theorem valid_iff {t : TD} : t.valid = true ↔ t.Valid := by simp [TD.valid]
theorem t68 (t : TD) (hv : t.Valid) : CallP Tryz.prog 63 [t.A] t.H (K69 t t.tru) := by
  have hL := hv.2.2.1
  have hp := pow_pos t.nL
  have h64 := pow_le64 hL
  have c69 := t69 t hv (2 ^ t.nL - 1) ⟨by omega, by omega⟩
  rw [truS_all hv] at c69
  refine callK (E := E) E_ok Tryz.func63 rfl ?_
  refine And.intro ?_ ?_
  · (repeat' (first | exact trivial | exact fun _ => rfl | exact rfl | refine And.intro ?_ ?_))
  refine drawP E_ok [3] pl63_1 (by kernel_rfl) ?_
  refine And.intro (And.intro ?_ ?_) trivial
  · (repeat' (first | exact True.intro | exact d1 _ | exact d1t _ | exact d2 _ | exact d3 _ _ | exact d3f _ _ | exact fun _ _ => rfl | exact fun _ => rfl | exact rfl | refine And.intro ?_ ?_))
  refine (t67 t (by omega)).use [0, 1, 2] ?_ (by (repeat' (first | exact trivial | exact rfl | exact fun _ _ => rfl | exact Or.inl rfl | refine And.intro ?_ ?_))) rfl
  refine And.intro (And.intro ?_ ?_) trivial
  · (repeat' (first | exact True.intro | exact d1 _ | exact d1t _ | exact d2 _ | exact d3 _ _ | exact d3f _ _ | exact fun _ _ => rfl | exact fun _ => rfl | exact rfl | refine And.intro ?_ ?_))
  refine CallP.frameH c69 [0, 1, 2] (by (repeat' (first | exact trivial | exact rfl | exact fun _ _ => rfl | exact Or.inl rfl | refine And.intro ?_ ?_))) rfl ?_
  rintro ce h' (⟨hX, rfl, rfl⟩ | ⟨hX, c, ia, ib, ca, cb, hI, hc, rfl, rfl⟩)
  · refine ⟨rfl, ?_⟩
    refine And.intro ?_ ?_
    · (repeat' (first | exact True.intro | exact d1 _ | exact d1t _ | exact d2 _ | exact d3 _ _ | exact d3f _ _ | exact fun _ _ => rfl | exact fun _ => rfl | exact rfl | refine And.intro ?_ ?_))
    refine And.intro rfl ?_
    (repeat' (first | exact trivial | exact fun _ => rfl | exact rfl | refine And.intro ?_ ?_))
    refine ⟨.ret .snil, t.H, .inl ⟨hX, rfl, rfl⟩, ?_⟩
    exact ent_tau [0, 1, 2] ⟨by (repeat' (first | exact trivial | exact rfl | exact fun _ _ => rfl | exact Or.inl rfl | refine And.intro ?_ ?_)), by (repeat' (first | exact trivial | exact rfl | exact congrArg (SV.int .i64) (Int.natCast_succ _).symm | refine And.intro ?_ ?_)), rfl⟩
  · refine ⟨rfl, ?_⟩
    refine And.intro ?_ ?_
    · (repeat' (first | exact True.intro | exact d1 _ | exact d1t _ | exact d2 _ | exact d3 _ _ | exact d3f _ _ | exact fun _ _ => rfl | exact fun _ => rfl | exact rfl | refine And.intro ?_ ?_))
    refine And.intro rfl ?_
    (repeat' (first | exact trivial | exact fun _ => rfl | exact rfl | refine And.intro ?_ ?_))
    refine ⟨.ret (.slice 3 2 0 t.tru.length c), t.H ++ [some (.arr 2 t.tru.length c (rowsT 4 5 t.nM t.nS ia ib ca cb)), some (poolL true t.nM t.hts), some (poolL true t.nS t.sds)], .inr ⟨hX, c, ia, ib, ca, cb, hI, hc, rfl, rfl⟩, ?_⟩
    exact ent_tau [0, 1, 2, 4, 5, 6] ⟨by (repeat' (first | exact trivial | exact rfl | exact fun _ _ => rfl | exact fun _ _ _ _ => rfl | exact Or.inl rfl | exact Or.inr rfl | refine And.intro ?_ ?_)), by (repeat' (first | exact trivial | exact rfl | exact congrArg (SV.int .i64) (Int.natCast_succ _).symm | refine And.intro ?_ ?_)), rfl⟩
/-- What told tells. -/
def K51 (t : TD) (v : Bool) : CE → SHeap → Prop := fun ce h' =>
  (¬ t.Valid ∧ ce = .ret (.tup [.snil, .int .i64 1]) ∧ h' = t.H) ∨ (t.Valid ∧ v = false ∧ ce = .ret (.tup [.snil, .int .i64 2]) ∧ h' = t.H) ∨ (t.Valid ∧ v = true ∧ t.tru = [] ∧ ce = .ret (.tup [.snil, .int .i64 10]) ∧ h' = t.H) ∨
  (t.Valid ∧ v = true ∧ t.tru ≠ [] ∧ ∃ (c : Nat) (ia ib ca cb : Nat → Nat), Idx t t.tru ia ib ∧ (t.tru.length ≤ c ∧ c ≤ 9223372036854775807) ∧ ce = .ret (.tup [.slice 3 2 0 t.tru.length c, .int .i64 0]) ∧ h' = t.H ++ [some (.arr 2 t.tru.length c (rowsT 4 5 t.nM t.nS ia ib ca cb)), some (poolL true t.nM t.hts), some (poolL true t.nS t.sds)])
theorem t51 (t : TD) (ht : t.ok) (v : Bool) : CallP Tryz.prog 35 [t.A, .bool v] t.H (K51 t v) := by
  have c34 := t34 t ht
  refine callK (E := E) E_ok Tryz.func35 rfl ?_
  refine And.intro ?_ ?_
  · (repeat' (first | exact trivial | exact fun _ => rfl | exact rfl | refine And.intro ?_ ?_))
  refine c34.use [0, 1, 2] ?_ (by (repeat' (first | exact trivial | exact rfl | exact fun _ _ => rfl | exact Or.inl rfl | refine And.intro ?_ ?_))) rfl
  refine And.intro ?_ (And.intro (fun h1 => ?_) (fun h1 => ?_))
  · (repeat' (first | exact trivial | exact fun _ => rfl | exact rfl | refine And.intro ?_ ?_))
  · have hv : ¬ t.Valid := by
      intro h
      rw [valid_iff.2 h] at h1
      cases h1
    (repeat' (first | exact trivial | exact fun _ => rfl | exact rfl | refine And.intro ?_ ?_))
    refine ⟨.ret (.tup [.snil, .int .i64 1]), t.H, .inl ⟨hv, rfl, rfl⟩, ?_⟩
    exact ent_tau [0, 1, 2] ⟨by (repeat' (first | exact trivial | exact rfl | exact fun _ _ => rfl | exact Or.inl rfl | refine And.intro ?_ ?_)), by (repeat' (first | exact trivial | exact rfl | exact congrArg (SV.int .i64) (Int.natCast_succ _).symm | refine And.intro ?_ ?_)), rfl⟩
  have hv : t.Valid := by
    cases h : t.valid
    · rw [h] at h1
      cases h1
    · exact valid_iff.1 h
  refine And.intro ?_ (And.intro (fun h2 => ?_) (fun h2 => ?_))
  · (repeat' (first | exact trivial | exact fun _ => rfl | exact rfl | refine And.intro ?_ ?_))
  · have hvf : v = false := by
      cases v
      · rfl
      · cases h2
    (repeat' (first | exact trivial | exact fun _ => rfl | exact rfl | refine And.intro ?_ ?_))
    refine ⟨.ret (.tup [.snil, .int .i64 2]), t.H, .inr (.inl ⟨hv, hvf, rfl, rfl⟩), ?_⟩
    exact ent_tau [0, 1, 2] ⟨by (repeat' (first | exact trivial | exact rfl | exact fun _ _ => rfl | exact Or.inl rfl | refine And.intro ?_ ?_)), by (repeat' (first | exact trivial | exact rfl | exact congrArg (SV.int .i64) (Int.natCast_succ _).symm | refine And.intro ?_ ?_)), rfl⟩
  have hvt : v = true := by
    cases v
    · cases h2
    · rfl
  refine And.intro ?_ ?_
  · (repeat' (first | exact trivial | exact fun _ => rfl | exact rfl | refine And.intro ?_ ?_))
  refine CallP.frameH (t68 t hv) [0, 1, 2] (by (repeat' (first | exact trivial | exact rfl | exact fun _ _ => rfl | exact Or.inl rfl | refine And.intro ?_ ?_))) rfl ?_
  rintro ce h' (⟨hX, rfl, rfl⟩ | ⟨hX, c, ia, ib, ca, cb, hI, hc, rfl, rfl⟩)
  · refine ⟨rfl, ?_⟩
    refine And.intro ?_ (And.intro (fun h3 => ?_) (fun h3 => ?_))
    · (repeat' (first | exact trivial | exact fun _ => rfl | exact rfl | refine And.intro ?_ ?_))
    · (repeat' (first | exact trivial | exact fun _ => rfl | exact rfl | refine And.intro ?_ ?_))
      refine ⟨.ret (.tup [.snil, .int .i64 10]), t.H, .inr (.inr (.inl ⟨hv, hvt, hX, rfl, rfl⟩)), ?_⟩
      exact ent_tau [0, 1, 2] ⟨by (repeat' (first | exact trivial | exact rfl | exact fun _ _ => rfl | exact Or.inl rfl | refine And.intro ?_ ?_)), by (repeat' (first | exact trivial | exact rfl | exact congrArg (SV.int .i64) (Int.natCast_succ _).symm | refine And.intro ?_ ?_)), rfl⟩
    · exact absurd rfl (of_decide_eq_false h3)
  · refine ⟨rfl, ?_⟩
    have hpos := List.length_pos_iff.2 hX
    refine And.intro ?_ (And.intro (fun h3 => ?_) (fun h3 => ?_))
    · (repeat' (first | exact trivial | exact fun _ => rfl | exact rfl | refine And.intro ?_ ?_))
    · have := of_decide_eq_true h3
      omega
    · (repeat' (first | exact trivial | exact fun _ => rfl | exact rfl | refine And.intro ?_ ?_))
      refine ⟨.ret (.tup [.slice 3 2 0 t.tru.length c, .int .i64 0]), t.H ++ [some (.arr 2 t.tru.length c (rowsT 4 5 t.nM t.nS ia ib ca cb)), some (poolL true t.nM t.hts), some (poolL true t.nS t.sds)], .inr (.inr (.inr ⟨hv, hvt, hX, c, ia, ib, ca, cb, hI, hc, rfl, rfl⟩)), ?_⟩
      exact ent_tau [0, 1, 2, 4, 5, 6] ⟨by (repeat' (first | exact trivial | exact rfl | exact fun _ _ => rfl | exact fun _ _ _ _ => rfl | exact Or.inl rfl | exact Or.inr rfl | refine And.intro ?_ ?_)), by (repeat' (first | exact trivial | exact rfl | exact congrArg (SV.int .i64) (Int.natCast_succ _).symm | refine And.intro ?_ ?_)), rfl⟩
end Go.Proofs.YtipbempkngfdbaaGreatDoor
/-
  Contract of the specification: depth.
-/
namespace Go.Proofs.YtipbempkngfdbaaGreatDoor
open Go Go.Sy
set_option linter.unusedSimpArgs false
set_option maxRecDepth 100000
set_option maxHeartbeats 4000000
attribute [local irreducible] CallP CodeP Ent YieldP

theorem t100r (t : TD) (hv : t.Valid) {i k : Nat} (hi : i < t.hts.length) (hk : k < t.sds.length) (ca cb : Nat) (p m : Int) (hp : 0 ≤ p ∧ p < t.nS) (hm : t.isMin m) :
    CallP Tryz.prog 56 [t.A, .agg [.row 3 i t.nM ca, .row 4 k t.nS cb], .int .i64 p, .int .i64 m] (HP t) (Ret (.int .i64 (max0 (t.stand (hrow t.hts i) m - hrow t.sds k p.toNat))) (HP t)) := by
  have hM := hv.1
  have hS := hv.2.1
  refine CallP.entR (h1 := HP t ++ [some (.roa 1 t.nM fun m => [.int .i64 (hrow t.hts i m)])] ++ [some (.roa 1 t.nS fun m => [.int .i64 (hrow t.sds k m)])]) (v := .int .i64 (max0 (t.stand (hrow t.hts i) m - hrow t.sds k p.toNat))) ?_ ?_
  · refine CallP.row (j := 3) (args' := [t.A, .agg [.osl true 5 1 t.nM ca, .row 4 k t.nS cb], .int .i64 p, .int .i64 m]) rfl i hi (show 0 < t.nM by omega) ?_ ?_
    · intro η b h1 h2
      have h1' : η 5 = some (b, 0) := h1
      simp only [denL, den, h1', Option.map_some]
      have := h2 t.nM ca
      simp only [den] at this
      rw [this]
    refine CallP.row (j := 4) (args' := [t.A, .agg [.osl true 5 1 t.nM ca, .osl true 6 1 t.nS cb], .int .i64 p, .int .i64 m]) rfl k hk (show 0 < t.nS by omega) ?_ ?_
    · intro η b h1 h2
      have h1' : η 6 = some (b, 0) := h1
      simp only [denL, den, h1', Option.map_some]
      have := h2 t.nS cb
      simp only [den] at this
      rw [this]
    refine (t100 t hv (hrow t.hts i) (hrow t.sds k) (hrow_h hv hi) (hrow_s hv hk) t.nM t.nS ca cb (Nat.le_refl _) (by omega) (Nat.le_refl _) p m hp hm).use [0, 1, 2, 5, 6] ?_ (by (repeat' (first | exact trivial | exact rfl | exact fun _ _ => rfl | exact Or.inl rfl | refine And.intro ?_ ?_))) rfl
    exact ⟨rfl, rfl⟩
  · exact ent_tau [0, 1, 2, 3, 4] ⟨by (repeat' (first | exact trivial | exact rfl | exact fun _ _ => rfl | exact fun _ _ _ _ => rfl | exact Or.inl rfl | exact Or.inr rfl | refine And.intro ?_ ?_)), by (repeat' (first | exact trivial | exact rfl | exact congrArg (SV.int .i64) (Int.natCast_succ _).symm | refine And.intro ?_ ?_)), rfl⟩
/-- The tide's rows, a list of truths, and both pools. -/
def H54 (t : TD) (n : Nat) (ia ib ca cb : Nat → Nat) : SHeap := t.H ++ [some (.roa 2 n (rowsT 4 5 t.nM t.nS ia ib ca cb)), some (poolL false t.nM t.hts), some (poolL false t.nS t.sds)]
def pl44_5s : Plan := .eager 1 <| .eager 2 <| .eager 3 <| .eager 4 <| .eager 5 <| .eager 6 <| .eager 7 <| .alt 0 (.alt 8 (.alt 9 (.alt 10 .done .no) .no) .no) (.alt 8 (.alt 0 (.alt 9 (.alt 10 .done .no) .no) .no) .no)
theorem t54 (t : TD) (hv : t.Valid) (X : List Tru) (hX : ∀ x ∈ X, x ∈ t.tru) (ia ib ca cb : Nat → Nat) (hI : Idx t X ia ib) (hX2 : X.length ≤ 100000) (c : Nat) (p m : Int) (hp : 0 ≤ p ∧ p < t.nS) (hm : t.isMin m) :
    CallP Tryz.prog 44 [t.A, .slice 3 2 0 X.length c, .int .i64 p, .int .i64 m] (H54 t X.length ia ib ca cb)
      (Ret (.agg [.int .i64 (spL (t.dep m p.toNat) X).1, .int .i64 (spL (t.dep m p.toNat) X).2]) (H54 t X.length ia ib ca cb)) := by
  refine callR (E := E) E_ok Tryz.func44 rfl ?_
  refine And.intro ?_ ?_
  · (repeat' (first | exact trivial | exact fun _ => rfl | exact rfl | refine And.intro ?_ ?_))
  refine loopP E_ok [1, 2, 3, 4, 8, 9] (fun i : Nat => [(10, .int .i64 i)])
    (fun i _ => H54 t X.length ia ib ca cb ++ [some (.cells [.osl t.bM 0 3 t.nM t.cM, .osl t.bS 1 2 t.nS t.cS, .osl t.bL 2 4 t.nL t.cL]), some (.cells [.int .i64 0, .int .i64 0]), some (.cells [.int .i64 (spF (fun i => t.dep m p.toNat (X.getD i noTru)) i).1, .int .i64 (spF (fun i => t.dep m p.toNat (X.getD i noTru)) i).2])])
    (fun i => i ≤ X.length) (fun i => X.length - i) 0 (Nat.zero_le _) ?_ ?_
  · exact ent_tau [0, 1, 2, 3, 4, 5, 6, 7, 8] ⟨by (repeat' (first | exact trivial | exact rfl | exact fun _ _ => rfl | exact fun _ _ _ _ => rfl | exact Or.inl rfl | exact Or.inr rfl | refine And.intro ?_ ?_)), by (repeat' (first | exact trivial | exact rfl | exact congrArg (SV.int .i64) (Int.natCast_succ _).symm | refine And.intro ?_ ?_)), rfl⟩
  rintro i hi
  have e1 : 0 + ((i : Nat) : Int).toNat = i := by omega
  refine And.intro ?_ (And.intro (fun hc => ?_) (fun hc => ?_))
  · (repeat' (first | exact trivial | exact fun _ => rfl | exact rfl | refine And.intro ?_ ?_))
  · have hlt : i < X.length := by
      have := of_decide_eq_true hc
      omega
    have a := hI.a i hlt
    have b := hI.b i hlt
    have c100 : CallP Tryz.prog 56 [t.A, .agg [.row 3 (ia (0 + ((i : Nat) : Int).toNat)) t.nM (ca (0 + ((i : Nat) : Int).toNat)), .row 4 (ib (0 + ((i : Nat) : Int).toNat)) t.nS (cb (0 + ((i : Nat) : Int).toNat))], .int .i64 p, .int .i64 m] (HP t) (Ret (.int .i64 (t.dep m p.toNat (X.getD i noTru))) (HP t)) := by
      rw [e1, TD.dep, ← a.2, ← b.2]
      exact t100r t hv a.1 b.1 _ _ p m hp hm
    have hd := dep_range hv (show p.toNat < t.nS by omega) hm (hX _ (truD_mem hlt))
    refine And.intro trivial ?_
    refine drawP E_ok [6] pl44_5s (by kernel_rfl) ?_
    (repeat' (first | exact trivial | exact fun _ => rfl | exact rfl | refine And.intro ?_ ?_))
    all_goals first | omega | exact un (by omega) | skip
    all_goals refine c100.use [0, 1, 2, 4, 5] ?_ (by (repeat' (first | exact trivial | exact rfl | exact fun _ _ => rfl | exact fun _ _ _ _ => rfl | exact Or.inl rfl | exact Or.inr rfl | refine And.intro ?_ ?_))) rfl
    all_goals (repeat' (first | exact trivial | exact fun _ => rfl | exact rfl | refine And.intro ?_ ?_))
    all_goals first | omega | exact un (by omega) | skip
    all_goals refine (t99 _ _ _).use [] ?_ trivial rfl
    all_goals (repeat' (first | exact trivial | exact fun _ => rfl | exact rfl | refine And.intro ?_ ?_))
    all_goals first | omega | exact un (by omega) | skip
    all_goals refine ⟨i + 1, hlt, by omega, ?_⟩
    all_goals refine ent_tau [0, 1, 2, 3, 4, 5, 6, 7, 8] ⟨?_, ?_, rfl⟩
    all_goals first | (repeat' (first | exact trivial | exact rfl | exact fun _ _ => rfl | exact fun _ _ _ _ => rfl | exact Or.inl rfl | exact Or.inr rfl | refine And.intro ?_ ?_)) | skip
    all_goals (repeat' (first | exact trivial | exact rfl | exact congrArg (SV.int .i64) (Int.natCast_succ _).symm | refine And.intro ?_ ?_))
  · have e : i = X.length := by
      have := of_decide_eq_false hc
      omega
    subst e
    (repeat' (first | exact trivial | exact fun _ => rfl | exact rfl | refine And.intro ?_ ?_))
    exact ent_tau [0, 1, 2, 3, 4, 5] ⟨by (repeat' (first | exact trivial | exact rfl | exact fun _ _ => rfl | exact fun _ _ _ _ => rfl | exact Or.inl rfl | exact Or.inr rfl | refine And.intro ?_ ?_)), by (repeat' (first | exact trivial | exact rfl | exact congrArg (SV.int .i64) (Int.natCast_succ _).symm | refine And.intro ?_ ?_)), rfl⟩
end Go.Proofs.YtipbempkngfdbaaGreatDoor
/-
  Contract: dipworkslaw01.heavy: it answers.
-/
namespace Go.Proofs.YtipbempkngfdbaaGreatDoor
open Go Go.Sy
set_option linter.unusedSimpArgs false
set_option maxRecDepth 100000
set_option maxHeartbeats 4000000
attribute [local irreducible] CallP CodeP Ent YieldP

theorem grow3 {n d : Int} {k : Nat} (h0 : 0 ≤ n) (hn : n ≤ 3 ^ k) (d0 : 0 ≤ d) (d2 : d ≤ 3) : 0 ≤ n * d ∧ n * d ≤ 3 ^ (k + 1) := by
  refine ⟨Int.mul_nonneg h0 d0, ?_⟩
  have h1 : n * d ≤ n * 3 := Int.mul_le_mul_of_nonneg_left d2 h0
  have h2 : (3 : Int) ^ (k + 1) = 3 ^ k * 3 := Int.pow_succ ..
  omega
theorem pow3 {k : Nat} (h : k ≤ 8) : (3 : Int) ^ k ≤ 6561 := by
  have : k = 0 ∨ k = 1 ∨ k = 2 ∨ k = 3 ∨ k = 4 ∨ k = 5 ∨ k = 6 ∨ k = 7 ∨ k = 8 := by omega
  rcases this with rfl | rfl | rfl | rfl | rfl | rfl | rfl | rfl | rfl <;> decide
end Go.Proofs.YtipbempkngfdbaaGreatDoor
/-
  Contract: heavy: where it says no, no list is long.
-/
namespace Go.Proofs.YtipbempkngfdbaaGreatDoor
open Go Go.Sy
set_option linter.unusedSimpArgs false
set_option maxRecDepth 100000
set_option maxHeartbeats 4000000
attribute [local irreducible] CallP CodeP Ent YieldP
theorem t13s (t : TD) (ht : t.ok) (ways : Int) : CallP Tryz.prog 4 [t.A, .int .i64 ways] t.H (fun ce h' => ∃ b, (b = false → max (max t.nM t.nS) t.nL ≤ 40) ∧ ce = .ret (.bool b) ∧ h' = t.H) := by
  refine callK (E := E) E_ok Tryz.func4 rfl ?_
  refine And.intro ?_ ?_
  · simp [AllP, under, gB, wB, inR_iff, IntKind.bits]
  refine (t33 t).use [0, 1, 2] ?_ (by (repeat' (first | exact trivial | exact rfl | exact fun _ _ => rfl | exact Or.inl rfl | refine And.intro ?_ ?_))) rfl
  refine And.intro ?_ (And.intro (fun hl => ?_) (fun hl => ?_))
  · simp [AllP, under, gB, wB, inR_iff, IntKind.bits]
  · refine (t34 t ht).use [0, 1, 2] ?_ (by (repeat' (first | exact trivial | exact rfl | exact fun _ _ => rfl | exact Or.inl rfl | refine And.intro ?_ ?_))) rfl
    refine And.intro ?_ (And.intro (fun hb => ?_) (fun hb => ?_))
    · simp [AllP, under, gB, wB, inR_iff, IntKind.bits]
    · refine And.intro trivial ?_
      refine (t33 t).use [0, 1, 2] ?_ (by (repeat' (first | exact trivial | exact rfl | exact fun _ _ => rfl | exact Or.inl rfl | refine And.intro ?_ ?_))) rfl
      refine And.intro ?_ ⟨.ret (.bool (decide (40 < max (max t.nM t.nS) t.nL))), t.H, ⟨_, fun h => by have := of_decide_eq_false h; omega, rfl, rfl⟩, ?_⟩
      · simp [AllP, under, gB, wB, inR_iff, IntKind.bits]
      exact ent_tau [0, 1, 2] ⟨by (repeat' (first | exact trivial | exact rfl | exact fun _ _ => rfl | exact Or.inl rfl | refine And.intro ?_ ?_)), by (repeat' (first | exact trivial | exact rfl | exact congrArg (SV.int .i64) (Int.natCast_succ _).symm | refine And.intro ?_ ?_)), rfl⟩
    · have hv : t.Valid := by
        cases hc : decide (40 < max (max t.nM t.nS) t.nL)
        · rw [hc] at hb
          have hb2 : (!t.valid) = false := hb
          simpa [TD.valid] using hb2
        · rw [hc] at hb
          cases hb
      have hM := hv.1
      have hS := hv.2.1
      refine And.intro ?_ ?_
      · simp [AllP, under, gB, wB, inR_iff, IntKind.bits]
      refine loopP E_ok [1, 2, 4, 20, 21] (fun g : Nat × Int => [(5, .int .i64 g.2), (22, .int .i64 g.1)]) (fun _ H => H) (fun g => g.1 ≤ t.nM ∧ 0 ≤ g.2 ∧ g.2 ≤ 3 ^ g.1) (fun g => t.nM - g.1) (0, 1) ⟨Nat.zero_le _, by decide, by decide⟩ ?_ ?_
      · exact ent_tau [0, 1, 2, 3] ⟨by (repeat' (first | exact trivial | exact rfl | exact fun _ _ => rfl | exact Or.inl rfl | refine And.intro ?_ ?_)), by (repeat' (first | exact trivial | exact rfl | exact congrArg (SV.int .i64) (Int.natCast_succ _).symm | refine And.intro ?_ ?_)), rfl⟩
      · rintro ⟨k, n⟩ ⟨hk, hn0, hn⟩
        have p3 := pow3 (k := k) (by simp only at hk; omega)
        simp only at hk hn0 hn
        refine And.intro ?_ (And.intro (fun hc => ?_) (fun hc => ?_))
        · simp [AllP, under, gB, wB, inR_iff, IntKind.bits]
        · have hk' : k < t.nM := by
            have : (k : Int) < t.nM := by simpa using hc
            omega
          have mk := hv.marks (i := 0 + ((k : Int)).toNat) (by omega)
          simp only [TD.markOk] at mk
          have gr := grow3 (d := t.mhi (0 + ((k : Int)).toNat) - t.mlo (0 + ((k : Int)).toNat) + 1) hn0 hn (by omega) (by omega)
          have p4 := pow3 (k := k + 1) (by omega)
          refine And.intro ?_ ⟨(k + 1, n * (t.mhi (0 + ((k : Int)).toNat) - t.mlo (0 + ((k : Int)).toNat) + 1)), ⟨hk', gr.1, gr.2⟩, by simp only; omega, ?_⟩
          · simp only [AllP, under, inR_iff, and_true, true_and]
            (repeat' refine And.intro ?_ ?_) <;> omega
          · exact ent_tau [0, 1, 2, 3] ⟨by (repeat' (first | exact trivial | exact rfl | exact fun _ _ => rfl | exact Or.inl rfl | refine And.intro ?_ ?_)), by (repeat' (first | exact trivial | exact rfl | exact congrArg (SV.int .i64) (Int.natCast_succ _).symm | refine And.intro ?_ ?_)), rfl⟩
        · have hk' : k = t.nM := by
            have : ¬ ((k : Int) < t.nM) := by simpa using hc
            omega
          subst hk'
          refine And.intro ?_ ?_
          · simp [AllP, under, gB, wB, inR_iff, IntKind.bits]
          refine And.intro ?_ ?_
          · simp [AllP, under, gB, wB, inR_iff, IntKind.bits]
          refine loopP E_ok [1, 2, 4, 38, 39] (fun g : Nat × Int => [(5, .int .i64 g.2), (40, .int .i64 g.1)]) (fun _ H => H) (fun g => g.1 ≤ t.nS ∧ 0 ≤ g.2 ∧ g.2 ≤ 3 ^ (t.nM + g.1)) (fun g => t.nS - g.1) (0, n) ⟨Nat.zero_le _, hn0, hn⟩ ?_ ?_
          · exact ent_tau [0, 1, 2, 3] ⟨by (repeat' (first | exact trivial | exact rfl | exact fun _ _ => rfl | exact Or.inl rfl | refine And.intro ?_ ?_)), by (repeat' (first | exact trivial | exact rfl | exact congrArg (SV.int .i64) (Int.natCast_succ _).symm | refine And.intro ?_ ?_)), rfl⟩
          · rintro ⟨k, n⟩ ⟨hk, hn0, hn⟩
            have p3 := pow3 (k := t.nM + k) (by simp only at hk; omega)
            simp only at hk hn0 hn
            refine And.intro ?_ (And.intro (fun hc => ?_) (fun hc => ?_))
            · simp [AllP, under, gB, wB, inR_iff, IntKind.bits]
            · have hk' : k < t.nS := by
                have : (k : Int) < t.nS := by simpa using hc
                omega
              have mk := hv.2.2.2.2.1 (0 + ((k : Int)).toNat) (by omega)
              simp only [TD.sandOk] at mk
              have gr := grow3 (d := t.shi (0 + ((k : Int)).toNat) - t.slo (0 + ((k : Int)).toNat) + 1) hn0 hn (by omega) (by omega)
              have p4 := pow3 (k := t.nM + k + 1) (by omega)
              refine And.intro ?_ ⟨(k + 1, n * (t.shi (0 + ((k : Int)).toNat) - t.slo (0 + ((k : Int)).toNat) + 1)), ⟨hk', gr.1, gr.2⟩, by simp only; omega, ?_⟩
              · simp only [AllP, under, inR_iff, and_true, true_and]
                (repeat' refine And.intro ?_ ?_) <;> omega
              · exact ent_tau [0, 1, 2, 3] ⟨by (repeat' (first | exact trivial | exact rfl | exact fun _ _ => rfl | exact Or.inl rfl | refine And.intro ?_ ?_)), by (repeat' (first | exact trivial | exact rfl | exact congrArg (SV.int .i64) (Int.natCast_succ _).symm | refine And.intro ?_ ?_)), rfl⟩
            · refine And.intro trivial ?_
              refine And.intro trivial ?_
              refine ⟨.ret (.bool (decide (n > ways))), t.H, ⟨_, fun _ => by have := hv.1; have := hv.2.1; have := hv.2.2.1; omega, rfl, rfl⟩, ?_⟩
              exact ent_tau [0, 1, 2] ⟨by (repeat' (first | exact trivial | exact rfl | exact fun _ _ => rfl | exact Or.inl rfl | refine And.intro ?_ ?_)), by (repeat' (first | exact trivial | exact rfl | exact congrArg (SV.int .i64) (Int.natCast_succ _).symm | refine And.intro ?_ ?_)), rfl⟩
  · have hl2 : decide (40 < max (max t.nM t.nS) t.nL) = true := by
      cases hc : decide (40 < max (max t.nM t.nS) t.nL)
      · rw [hc] at hl
        cases hl
      · rfl
    refine And.intro ?_ (And.intro (fun hb => ?_) (fun hb => ?_))
    · refine And.intro ?_ ?_
      · simp [AllP, under, gB, wB, inR_iff, IntKind.bits]
      simp [AllP, under, gB, wB, inR_iff, IntKind.bits]
      have := of_decide_eq_true hl2
      omega
    · refine And.intro trivial ?_
      refine (t33 t).use [0, 1, 2] ?_ (by (repeat' (first | exact trivial | exact rfl | exact fun _ _ => rfl | exact Or.inl rfl | refine And.intro ?_ ?_))) rfl
      refine And.intro ?_ ⟨.ret (.bool (decide (40 < max (max t.nM t.nS) t.nL))), t.H, ⟨_, fun h => by have := of_decide_eq_false h; omega, rfl, rfl⟩, ?_⟩
      · simp [AllP, under, gB, wB, inR_iff, IntKind.bits]
      exact ent_tau [0, 1, 2] ⟨by (repeat' (first | exact trivial | exact rfl | exact fun _ _ => rfl | exact Or.inl rfl | refine And.intro ?_ ?_)), by (repeat' (first | exact trivial | exact rfl | exact congrArg (SV.int .i64) (Int.natCast_succ _).symm | refine And.intro ?_ ?_)), rfl⟩
    · rw [hl2] at hb
      cases hb
end Go.Proofs.YtipbempkngfdbaaGreatDoor
