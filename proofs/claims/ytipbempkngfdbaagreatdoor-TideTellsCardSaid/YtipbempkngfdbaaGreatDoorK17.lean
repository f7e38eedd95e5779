/-
  Parts: B19, B4b, B9.
-/
import Derived.Test.YtipbempkngfdbaaGreatDoorK15
import Derived.Test.YtipbempkngfdbaaGreatDoorK11
import Derived.Test.YtipbempkngfdbaaGreatDoorK16
set_option linter.unusedVariables false
/-
  Contracts: looks without those of a set.
-/
namespace Go.Proofs.YtipbempkngfdbaaGreatDoor
open Go Go.Sy
set_option linter.unusedSimpArgs false
set_option maxRecDepth 100000
set_option maxHeartbeats 4000000
attribute [local irreducible] CallP CodeP Ent YieldP

/-- Look n is of a set. -/
def inSet (so : Int) (n : Nat) : Bool := decide (bitOp .and .u64 (so.fdiv (2 ^ n)) 1 = 1)
theorem t102 (so : Int) (n : Nat) (hn : n < 64) (x : Int) (hx : x + 1 = n) (a b c d : Int) : CallP Tryz.prog 99 [.agg [.int .i64 a, .int .i64 b, .int .i64 c, .int .i64 d], .ptr 0 0, .ptr 1 0] [some (.cells [.int .i64 x]), some (.roc [.int .u64 so])]
    (Ret (.bool (inSet so n)) [some (.cells [.int .i64 n]), some (.roc [.int .u64 so])]) := by
  have ex : (x + 1).toNat = n := by omega
  refine callR (E := E) E_ok Tryz.func99 rfl ?_
  refine And.intro ?_ ?_
  · simp [AllP, under, gB, wB, inR_iff, IntKind.bits]
    omega
  refine ent_tau [0, 1] ⟨?_, ?_, rfl⟩
  · (repeat' (first | exact trivial | exact rfl | exact fun _ _ => rfl | exact Or.inl rfl | refine And.intro ?_ ?_))
    exact congrArg (fun v => [SV.int .i64 v]) hx
  · (repeat' (first | exact trivial | exact rfl | exact congrArg (SV.int .i64) (Int.natCast_succ _).symm | refine And.intro ?_ ?_))
    refine congrArg SV.bool ?_
    simp only [inSet]
    rw [ex]
/-- The first look of a set, from i on, among n. -/
theorem t120 (t : TD) (hL : t.nL ≤ 6) (so : Int) (c : Nat) : CallP Tryz.prog 104 [.slice 0 4 0 t.nL c, .fn (.func 99) [] [.ptr 1 0, .ptr 2 0]] [some (.roa 4 t.nL (row4 t.lp t.lm t.llo t.lhi)), some (.cells [.int .i64 (-1)]), some (.roc [.int .u64 so])]
    (fun ce h' => (∃ j, j < t.nL ∧ inSet so j = true ∧ (∀ i, i < j → inSet so i = false) ∧ ce = .ret (.int .i64 (j : Nat)) ∧ h' = [some (.roa 4 t.nL (row4 t.lp t.lm t.llo t.lhi)), some (.cells [.int .i64 (j : Nat)]), some (.roc [.int .u64 so])]) ∨
      ((∀ i, i < t.nL → inSet so i = false) ∧ ce = .ret (.int .i64 (-1)) ∧ h' = [some (.roa 4 t.nL (row4 t.lp t.lm t.llo t.lhi)), some (.cells [.int .i64 ((t.nL : Int) - 1)]), some (.roc [.int .u64 so])])) := by
  refine callK (E := E) E_ok Tryz.func104 rfl ?_
  refine And.intro ?_ ?_
  · simp [AllP, under, gB, wB, inR_iff, IntKind.bits]
  refine loopP E_ok [0, 1, 7] (fun k : Nat => [(8, .int .i64 k)]) (fun k H => H.set 1 (some (.cells [.int .i64 ((k : Int) - 1)]))) (fun k => k ≤ t.nL ∧ ∀ i, i < k → inSet so i = false) (fun k => t.nL - k) 0 ⟨Nat.zero_le _, fun i hi => by omega⟩ ?_ ?_
  · exact ent_tau [0, 1, 2] ⟨by (repeat' (first | exact trivial | exact rfl | exact fun _ _ => rfl | exact Or.inl rfl | refine And.intro ?_ ?_)), by (repeat' (first | exact trivial | exact rfl | exact congrArg (SV.int .i64) (Int.natCast_succ _).symm | refine And.intro ?_ ?_)), rfl⟩
  · rintro k ⟨hk, hall⟩
    refine And.intro ?_ (And.intro (fun hn => ?_) (fun hn => ?_))
    · simp [AllP, under, gB, wB, inR_iff, IntKind.bits]
    · have hn' : k < t.nL := by simpa using hn
      have ek : (0 + (k : Int).toNat) = k := by omega
      refine And.intro ?_ ?_
      · simp [AllP, under, gB, wB, inR_iff, IntKind.bits]
        omega
      rw [ek]
      refine (t102 so k (by omega) ((k : Int) - 1) (by omega) (t.lp k) (t.lm k) (t.llo k) (t.lhi k)).use [1, 2] ?_ (by (repeat' (first | exact trivial | exact rfl | exact fun _ _ => rfl | exact Or.inl rfl | refine And.intro ?_ ?_))) rfl
      refine And.intro ?_ (And.intro (fun hd => ?_) (fun hd => ?_))
      · simp [AllP, under, gB, wB, inR_iff, IntKind.bits]
      · refine And.intro ?_ ?_
        · simp [AllP, under, gB, wB, inR_iff, IntKind.bits]
        refine And.intro ?_ ⟨_, _, .inl ⟨k, hn', hd, hall, rfl, rfl⟩, ?_⟩
        · simp [AllP, under, gB, wB, inR_iff, IntKind.bits]
        exact ent_tau [0, 1, 2] ⟨by (repeat' (first | exact trivial | exact rfl | exact fun _ _ => rfl | exact Or.inl rfl | refine And.intro ?_ ?_)), by (repeat' (first | exact trivial | exact rfl | exact congrArg (SV.int .i64) (Int.natCast_succ _).symm | refine And.intro ?_ ?_)), rfl⟩
      · refine And.intro ?_ ⟨k + 1, ⟨hn', fun i hi => ?_⟩, by omega, ?_⟩
        · simp [AllP, under, gB, wB, inR_iff, IntKind.bits]
          omega
        · rcases Nat.lt_or_ge i k with h | h
          · exact hall i h
          · have : i = k := by omega
            subst this
            exact hd
        · refine ent_tau [0, 1, 2] ⟨?_, by (repeat' (first | exact trivial | exact rfl | exact congrArg (SV.int .i64) (Int.natCast_succ _).symm | refine And.intro ?_ ?_)), rfl⟩
          (repeat' (first | exact trivial | exact rfl | exact fun _ _ => rfl | exact Or.inl rfl | refine And.intro ?_ ?_))
          exact congrArg (fun v => [SV.int .i64 v]) (by push_cast; omega)
    · have hn' : k = t.nL := by
        have : ¬ (k < t.nL) := by simpa using hn
        omega
      subst hn'
      refine And.intro ?_ ?_
      · simp [AllP, under, gB, wB, inR_iff, IntKind.bits]
      refine And.intro trivial ?_
      refine ⟨_, _, .inr ⟨hall, rfl, rfl⟩, ?_⟩
      exact ent_tau [0, 1, 2] ⟨by (repeat' (first | exact trivial | exact rfl | exact fun _ _ => rfl | exact Or.inl rfl | refine And.intro ?_ ?_)), by (repeat' (first | exact trivial | exact rfl | exact congrArg (SV.int .i64) (Int.natCast_succ _).symm | refine And.intro ?_ ?_)), rfl⟩
/-- The looks that are not of a set, of the first k. -/
def keptL (so : Int) : Nat → List Nat
  | 0 => []
  | k + 1 => if inSet so k = true then keptL so k else keptL so k ++ [k]
theorem keptL_len (so : Int) : ∀ k, (keptL so k).length ≤ k
  | 0 => Nat.le_refl _
  | k + 1 => by
    have := keptL_len so k
    simp only [keptL]
    split
    · omega
    · simp; omega
theorem keptL_lt (so : Int) : ∀ k, ∀ i ∈ keptL so k, i < k
  | 0, i, h => by simp [keptL] at h
  | k + 1, i, h => by
    simp only [keptL] at h
    split at h
    · have := keptL_lt so k i h; omega
    · rcases List.mem_append.1 h with h | h
      · have := keptL_lt so k i h; omega
      · simp at h; omega
theorem keptL_all {so : Int} : ∀ {k : Nat}, (∀ i, i < k → inSet so i = false) → keptL so k = List.range k
  | 0, _ => rfl
  | k + 1, h => by
    rw [keptL, if_neg (by simp [h k (by omega)]), keptL_all fun i hi => h i (by omega), List.range_succ]
def keptRow (t : TD) (so : Int) (m : Nat) : List SV := row4 t.lp t.lm t.llo t.lhi ((keptL so t.nL).getD m 0)
theorem row_put (a b c d : Nat → Int) (σ : Nat → Nat) (i j m : Nat) : selL (decide (m = i)) (splice (row4 a b c d (σ i)) 0 [.int .i64 (a (σ j)), .int .i64 (b (σ j)), .int .i64 (c (σ j)), .int .i64 (d (σ j))]) (row4 a b c d (σ m)) = row4 a b c d (if m = i then σ j else σ m) := by
  by_cases h : m = i
  · subst h; simp [selL, selV, splice, row4]
  · simp [selL, selV, splice, row4, h]
theorem t101 (t : TD) (hL : t.nL ≤ 6) (so : Int) : CallP Tryz.prog 98 [.slice 0 4 0 t.nL t.nL, .fn (.func 99) [] [.ptr 1 0, .ptr 2 0]] [some (.arr 4 t.nL t.nL (row4 t.lp t.lm t.llo t.lhi)), some (.cells [.int .i64 (-1)]), some (.roc [.int .u64 so])]
    (Ret (.slice 0 4 0 (keptL so t.nL).length t.nL) [some (.arr 4 (keptL so t.nL).length t.nL (keptRow t so)), some (.cells [.int .i64 ((t.nL : Int) - 1)]), some (.roc [.int .u64 so])]) := by
  refine callR (E := E) E_ok Tryz.func98 rfl ?_
  refine And.intro ?_ ?_
  · simp [AllP, under, gB, wB, inR_iff, IntKind.bits]
  refine CallP.frame (t120 t hL so t.nL) [0, 1, 2] (by (repeat' (first | exact trivial | exact rfl | exact fun _ _ => rfl | exact Or.inl rfl | refine And.intro ?_ ?_))) (apartB_ok rfl) rfl ?_
  rintro ce h' (⟨j, hj, hsj, hall, rfl, rfl⟩ | ⟨hall, rfl, rfl⟩)
  · refine ⟨ownB_ok rfl, ?_⟩
    refine And.intro ?_ (And.intro (fun hm => ?_) (fun hm => ?_))
    · simp [AllP, under, gB, wB, inR_iff, IntKind.bits]
    · have : (j : Int) = -1 := by simp at hm
      omega
    · have hk1 : keptL so (j + 1) = List.range j := by rw [keptL, if_pos hsj, keptL_all hall]
      refine And.intro ?_ ?_
      · simp [AllP, under, gB, wB, inR_iff, IntKind.bits]
        omega
      refine loopP E_ok [0, 1] (fun g : Nat × (Nat → Nat) => [(5, .int .i64 ((keptL so g.1).length : Nat)), (6, .int .i64 (g.1 : Nat))]) (fun g H => (H.set 0 (some (.arr 4 t.nL t.nL fun m => row4 t.lp t.lm t.llo t.lhi (g.2 m)))).set 1 (some (.cells [.int .i64 ((g.1 : Int) - 1)])))
        (fun g => g.1 ≤ t.nL ∧ (keptL so g.1).length < g.1 ∧ (∀ m, m < (keptL so g.1).length → g.2 m = (keptL so g.1).getD m 0) ∧ ∀ m, g.1 ≤ m → g.2 m = m) (fun g => t.nL - g.1) (j + 1, id) ⟨hj, by rw [hk1]; simp, fun m hm => ?_, fun m _ => rfl⟩ ?_ ?_
      · have hm' : m < j := by simpa [hk1] using hm
        show m = (keptL so (j + 1)).getD m 0
        rw [hk1, List.getD_eq_getElem?_getD, List.getElem?_range hm']
        rfl
      · refine ent_tau [0, 1, 2] ⟨?_, ?_, rfl⟩
        · (repeat' (first | exact trivial | exact rfl | exact fun _ _ => rfl | exact Or.inl rfl | refine And.intro ?_ ?_))
          exact congrArg (fun v => [SV.int .i64 v]) (by show (j : Int) = ((j + 1 : Nat) : Int) - 1; omega)
        · (repeat' (first | exact trivial | exact rfl | exact congrArg (SV.int .i64) (Int.natCast_succ _).symm | refine And.intro ?_ ?_))
          exact congrArg (SV.int .i64) (by rw [hk1]; simp)
      · rintro ⟨q, σ⟩ ⟨h1, h2, h3, h4⟩
        simp only at h1 h2 h3 h4
        refine And.intro ?_ (And.intro (fun hn => ?_) (fun hn => ?_))
        · simp [AllP, under, gB, wB, inR_iff, IntKind.bits]
        · have hn' : q < t.nL := by simpa using hn
          have eq : (0 + (q : Int).toNat) = q := by omega
          refine And.intro ?_ ?_
          · simp [AllP, under, gB, wB, inR_iff, IntKind.bits]
            omega
          rw [eq]
          refine (t102 so q (by omega) ((q : Int) - 1) (by omega) (t.lp (σ q)) (t.lm (σ q)) (t.llo (σ q)) (t.lhi (σ q))).use [1, 2] ?_ (by (repeat' (first | exact trivial | exact rfl | exact fun _ _ => rfl | exact Or.inl rfl | refine And.intro ?_ ?_))) rfl
          refine And.intro ?_ (And.intro (fun hd => ?_) (fun hd => ?_))
          · simp [AllP, under, gB, wB, inR_iff, IntKind.bits]
          · have hd' : inSet so q = false := by simpa using hd
            have ek : keptL so (q + 1) = keptL so q ++ [q] := by rw [keptL, if_neg (by simp [hd'])]
            have el : (keptL so (q + 1)).length = (keptL so q).length + 1 := by rw [ek]; simp
            have ei : (0 + ((keptL so q).length : Int).toNat) = (keptL so q).length := by omega
            refine And.intro ?_ ⟨(q + 1, fun m => if m = (keptL so q).length then σ q else σ m), ⟨hn', by show (keptL so (q + 1)).length < q + 1; omega, fun m hm => ?_, fun m hm => ?_⟩, by show t.nL - (q + 1) < t.nL - q; omega, ?_⟩
            · simp [AllP, under, gB, wB, inR_iff, IntKind.bits]
              omega
            · have hm' : m < (keptL so q).length + 1 := by rw [← el]; exact hm
              show (if m = (keptL so q).length then σ q else σ m) = (keptL so (q + 1)).getD m 0
              rw [ek, List.getD_eq_getElem?_getD, List.getElem?_append]
              split
              · rename_i h5
                subst h5
                rw [if_neg (by omega), Nat.sub_self]
                exact h4 q (Nat.le_refl _)
              · rw [if_pos (by omega), ← List.getD_eq_getElem?_getD]
                exact h3 m (by omega)
            · have hm' : q + 1 ≤ m := hm
              show (if m = (keptL so q).length then σ q else σ m) = m
              rw [if_neg (by omega)]
              exact h4 m (by omega)
            · refine ent_tau [0, 1, 2] ⟨?_, ?_, rfl⟩
              · (repeat' (first | exact trivial | exact rfl | exact fun _ _ => rfl | exact Or.inl rfl | refine And.intro ?_ ?_))
                · intro m hm
                  show selL (decide (m = 0 + ((keptL so q).length : Int).toNat)) (splice (row4 t.lp t.lm t.llo t.lhi (σ (0 + ((keptL so q).length : Int).toNat))) 0 [.int .i64 (t.lp (σ q)), .int .i64 (t.lm (σ q)), .int .i64 (t.llo (σ q)), .int .i64 (t.lhi (σ q))]) (row4 t.lp t.lm t.llo t.lhi (σ m)) = row4 t.lp t.lm t.llo t.lhi (if m = (keptL so q).length then σ q else σ m)
                  rw [ei]
                  exact row_put ..
                · exact congrArg (fun v => [SV.int .i64 v]) (by show (q : Int) = ((q + 1 : Nat) : Int) - 1; omega)
              · (repeat' (first | exact trivial | exact rfl | exact congrArg (SV.int .i64) (Int.natCast_succ _).symm | refine And.intro ?_ ?_))
                exact congrArg (SV.int .i64) (by show ((keptL so q).length : Int) + 1 = ((keptL so (q + 1)).length : Int); omega)
          · have hd' : inSet so q = true := by simpa using hd
            have ek : keptL so (q + 1) = keptL so q := by rw [keptL, if_pos hd']
            refine And.intro ?_ ⟨(q + 1, σ), ⟨hn', by show (keptL so (q + 1)).length < q + 1; rw [ek]; omega, by show ∀ m, m < (keptL so (q + 1)).length → σ m = (keptL so (q + 1)).getD m 0; rw [ek]; exact h3, fun m hm => h4 m (by have hm' : q + 1 ≤ m := hm; omega)⟩, by show t.nL - (q + 1) < t.nL - q; omega, ?_⟩
            · simp [AllP, under, gB, wB, inR_iff, IntKind.bits]
              omega
            · refine ent_tau [0, 1, 2] ⟨?_, ?_, rfl⟩
              · (repeat' (first | exact trivial | exact rfl | exact fun _ _ => rfl | exact Or.inl rfl | refine And.intro ?_ ?_))
                exact congrArg (fun v => [SV.int .i64 v]) (by show (q : Int) = ((q + 1 : Nat) : Int) - 1; omega)
              · (repeat' (first | exact trivial | exact rfl | exact congrArg (SV.int .i64) (Int.natCast_succ _).symm | refine And.intro ?_ ?_))
                exact congrArg (SV.int .i64) (by show ((keptL so q).length : Int) = ((keptL so (q + 1)).length : Int); rw [ek])
        · have hn' : q = t.nL := by
            have : ¬ (q < t.nL) := by simpa using hn
            omega
          subst hn'
          refine And.intro ?_ ?_
          · simp [AllP, under, gB, wB, inR_iff, IntKind.bits]
          refine And.intro ?_ ?_
          · refine ⟨?_, ?_, ?_, ?_, ?_, ?_, trivial⟩
            · show 0 ≤ ((keptL so t.nL).length : Int)
              omega
            · show ((keptL so t.nL).length : Int) ≤ (t.nL : Int)
              omega
            · show 0 + ((keptL so t.nL).length : Int).toNat + (t.nL - ((keptL so t.nL).length : Int).toNat) ≤ t.nL
              omega
            · show 0 ≤ ((keptL so t.nL).length : Int)
              omega
            · show ((keptL so t.nL).length : Int) ≤ (t.nL : Int)
              omega
            · show ((keptL so t.nL).length : Int) < (t.nL : Int)
              omega
          refine Ent.trans (entCut (i := 0) (m' := (keptL so t.nL).length) (get' := keptRow t so) rfl (keptL_len so t.nL) fun m hm => ?_) (ent_tau [0, 1, 2] ⟨by (repeat' (first | exact trivial | exact rfl | exact fun _ _ => rfl | exact Or.inl rfl | refine And.intro ?_ ?_)), ?_, rfl⟩)
          · refine Eq.trans (b := row4 t.lp t.lm t.llo t.lhi (σ m)) ?_ ?_
            · show selL (decide (0 + ((keptL so t.nL).length : Int).toNat ≤ m ∧ m < 0 + ((keptL so t.nL).length : Int).toNat + (t.nL - ((keptL so t.nL).length : Int).toNat))) _ (row4 t.lp t.lm t.llo t.lhi (σ m)) = _
              rw [decide_eq_false (by omega), selL_false]
            · unfold keptRow
              rw [h3 m hm]
          · (repeat' (first | exact trivial | exact rfl | exact congrArg (SV.int .i64) (Int.natCast_succ _).symm | refine And.intro ?_ ?_))
  · refine ⟨ownB_ok rfl, ?_⟩
    have hk := keptL_all hall
    refine And.intro ?_ (And.intro (fun hm => ?_) (fun hm => ?_))
    · simp [AllP, under, gB, wB, inR_iff, IntKind.bits]
    · refine And.intro ?_ ?_
      · simp [AllP, under, gB, wB, inR_iff, IntKind.bits]
      refine Ent.trans (entCut (i := 0) (m' := (keptL so t.nL).length) (get' := keptRow t so) rfl (keptL_len so t.nL) fun m hm => ?_) (ent_tau [0, 1, 2] ⟨by (repeat' (first | exact trivial | exact rfl | exact fun _ _ => rfl | exact Or.inl rfl | refine And.intro ?_ ?_)), ?_, rfl⟩)
      · unfold keptRow
        have hm' : m < t.nL := by have := keptL_len so t.nL; omega
        rw [hk, List.getD_eq_getElem?_getD, List.getElem?_range hm']
        rfl
      · (repeat' (first | exact trivial | exact rfl | exact congrArg (SV.int .i64) (Int.natCast_succ _).symm | refine And.intro ?_ ?_))
        show SV.slice 0 4 0 t.nL t.nL = SV.slice 0 4 0 (keptL so t.nL).length t.nL
        rw [hk, List.length_range]
    · simp at hm
theorem t62 (t : TD) (hL : t.nL ≤ 6) (so : Int) (b : Bool) (c : Nat) : CallP Tryz.prog 78 [.osl b 0 4 t.nL c, .int .u64 so] [some (.roa 4 t.nL (row4 t.lp t.lm t.llo t.lhi))]
    (Ret (.osl true 1 4 (keptL so t.nL).length t.nL) [some (.roa 4 t.nL (row4 t.lp t.lm t.llo t.lhi)), some (.arr 4 (keptL so t.nL).length t.nL (keptRow t so))]) := by
  refine callR (E := E) E_ok Tryz.func78 rfl ?_
  refine And.intro ?_ ?_
  · refine ⟨?_, ?_, fun _ _ => rfl, ?_, Int.le_refl _, ?_, ?_, trivial⟩
    · show 0 + (t.nL : Int).toNat ≤ (t.nL : Int).toNat
      omega
    · omega
    · show (0 : Int) ≤ t.nL
      omega
    · show (32 : Int) * t.nL ≤ 281474976710656
      omega
    · show (t.nL : Int) ≤ 9223372036854775807
      omega
  refine (t101 t hL so).use [2, 3, 1] ?_ ?_ rfl
  · refine And.intro ?_ ?_
    · simp [AllP, under, gB, wB, inR_iff, IntKind.bits]
    refine Ent.trans (entV (den_slice · _ _ _ _)) (ent_tau [0, 2] ⟨by (repeat' (first | exact trivial | exact rfl | exact fun _ _ => rfl | exact Or.inl rfl | refine And.intro ?_ ?_)), by (repeat' (first | exact trivial | exact rfl | exact congrArg (SV.int .i64) (Int.natCast_succ _).symm | refine And.intro ?_ ?_)), rfl⟩)
  · (repeat' (first | exact trivial | exact rfl | exact fun _ _ => rfl | exact Or.inl rfl | refine And.intro ?_ ?_))
    intro k hk
    show selL (decide (0 ≤ k ∧ k < 0 + Nat.min t.nL (t.nL : Int).toNat)) (row4 t.lp t.lm t.llo t.lhi (0 + (k - 0))) _ = row4 t.lp t.lm t.llo t.lhi k
    have : Nat.min t.nL (t.nL : Int).toNat = t.nL := by rw [Int.toNat_natCast]; exact Nat.min_self _
    rw [this, decide_eq_true (by omega), selL_true]
    simp
end Go.Proofs.YtipbempkngfdbaaGreatDoor
/-
  Contracts: a tide is opened; the question has captured 2 variables.
-/
namespace Go.Proofs.YtipbempkngfdbaaGreatDoor
open Go Go.Sy
set_option linter.unusedSimpArgs false
set_option maxRecDepth 100000
set_option maxHeartbeats 4000000
attribute [local irreducible] CallP CodeP Ent YieldP
set_option maxHeartbeats 800000

noncomputable def B44_2 (t : TD) (c0 c1 : Int) : SHeap := [some (.roa 3 t.nM (row3 t.mi t.mlo t.mhi)), some (.roa 2 t.nS (row2 t.slo t.shi)), some (.roa 4 t.nL (row4 t.lp t.lm t.llo t.lhi)), some (.roc [.int .i64 c0]), some (.roc [.int .i64 c1])]
theorem t44_2 (t : TD) (c0 c1 : Int) (f : Nat) (hf : f = 40) (b : Bool)
    (his : t.Valid → CallP Tryz.prog f [.ptr 0 0, .ptr 5 0, .ptr 6 0] (t.shore ++ [some (.roc [.int .i64 c0]), some (.roc [.int .i64 c1])]) (Ret (.bool b) (t.shore ++ [some (.roc [.int .i64 c0]), some (.roc [.int .i64 c1])]))) :
    CallP Tryz.prog 28 [t.A, .fn (.func f) [] [.ptr 3 0, .ptr 4 0]] (B44_2 t c0 c1) (K44 t b (B44_2 t c0 c1) 5 6) := by
  refine callK (E := E) E_ok Tryz.func28 rfl ?_
  refine And.intro ?_ ?_
  · simp [AllP, under, gB, wB, inR_iff, IntKind.bits]
  refine (t90 _ _ _).use [] ?_ (by (repeat' (first | exact trivial | exact rfl | exact fun _ _ => rfl | exact Or.inl rfl | refine And.intro ?_ ?_))) rfl
  refine And.intro ?_ ?_
  · simp [AllP, under, gB, wB, inR_iff, IntKind.bits]
  refine And.intro (fun h1 => ?_) (fun h1 => ?_)
  · refine (t90 _ _ _).use [] ?_ (by (repeat' (first | exact trivial | exact rfl | exact fun _ _ => rfl | exact Or.inl rfl | refine And.intro ?_ ?_))) rfl
    refine And.intro ?_ ?_
    · simp [AllP, under, gB, wB, inR_iff, IntKind.bits]
    refine must (fun hb => ?_) (fun hb => ?_)
    · -- the lists are as long as they may be
      have hb' : (2 ≤ t.nM ∧ t.nM ≤ 4) ∧ (1 ≤ t.nS ∧ t.nS ≤ 4) ∧ t.nL ≤ 6 := by
        simp [inB, gB, wB] at hb h1
        omega
      obtain ⟨hM, hS, hL⟩ := hb'
      refine And.intro ?_ ?_
      · simp [AllP, under, gB, wB, inR_iff, IntKind.bits]
      refine loopP E_ok [0, 1, 2, 5, 31, 32] (fun i : Nat => [(33, .int .i64 i)]) (fun _ H => H) (fun i => i ≤ t.nM ∧ ∀ j, j < i → t.markOk j) (fun i => t.nM - i) 0 ⟨Nat.zero_le _, fun j h => by omega⟩ ?_ ?_
      · exact ent_tau [0, 1, 2, 3, 4, 5] ⟨by (repeat' (first | exact trivial | exact rfl | exact fun _ _ => rfl | exact Or.inl rfl | refine And.intro ?_ ?_)), by (repeat' (first | exact trivial | exact rfl | exact congrArg (SV.int .i64) (Int.natCast_succ _).symm | refine And.intro ?_ ?_)), rfl⟩
      · rintro i ⟨hi, hall⟩
        refine And.intro ?_ (And.intro (fun hlt => ?_) (fun hlt => ?_))
        · simp [AllP, under, gB, wB, inR_iff, IntKind.bits]
        · have hlt' : i < t.nM := by simpa using hlt
          have ei : (0 + (i : Int).toNat) = i := by omega
          have ei' : (0 + ((i : Int) - 1).toNat) = i - 1 := by omega
          refine And.intro ?_ ?_
          · simp [AllP, under, gB, wB, inR_iff, IntKind.bits]
            omega
          rw [ei]
          refine drawQ E_ok [5, 6] pl28_6 (by kernel_rfl) ?_
          refine And.intro (And.intro ?_ ?_) trivial
          · simp [AllP, under, gB, wB, inR_iff, IntKind.bits]
          refine (t90 _ _ _).use [] ?_ (by (repeat' (first | exact trivial | exact rfl | exact fun _ _ => rfl | exact Or.inl rfl | refine And.intro ?_ ?_))) rfl
          refine And.intro (And.intro ?_ (And.intro (fun h2 => ?_) (fun h2 => ?_))) trivial
          · simp [AllP, under, gB, wB, inR_iff, IntKind.bits]
          · refine (t95 _ _).use [] ?_ (by (repeat' (first | exact trivial | exact rfl | exact fun _ _ => rfl | exact Or.inl rfl | refine And.intro ?_ ?_))) rfl
            refine And.intro (And.intro ?_ ?_) trivial
            · have hp := fun h => hall (i - 1) h
              simp only [TD.markOk] at hp
              simp [inB, gB, wB] at h2
              simp [AllP, under, gB, wB, inR_iff, IntKind.bits, ei', inB, hiB]
              omega
            · refine must (fun hb => ?_) (fun hb => ?_)
              · refine And.intro ?_ ?_
                · simp [AllP, under, gB, wB, inR_iff, IntKind.bits]
                refine And.intro ?_ ?_
                · exact rfl
                refine And.intro ?_ ⟨i + 1, ⟨hlt', fun j hj => ?_⟩, by omega, ?_⟩
                · simp [AllP, under, gB, wB, inR_iff, IntKind.bits]
                  omega
                · rcases Nat.lt_or_ge j i with hji | hji
                  · exact hall j hji
                  · have : j = i := by omega
                    subst this
                    rw [ei'] at hb
                    simp [inB, hiB, gB, wB] at h2 hb
                    simp only [TD.markOk]
                    omega
                · exact ent_tau [0, 1, 2, 3, 4, 5] ⟨by (repeat' (first | exact trivial | exact rfl | exact fun _ _ => rfl | exact Or.inl rfl | refine And.intro ?_ ?_)), by (repeat' (first | exact trivial | exact rfl | exact congrArg (SV.int .i64) (Int.natCast_succ _).symm | refine And.intro ?_ ?_)), rfl⟩
              · refine And.intro ?_ ?_
                · simp [AllP, under, gB, wB, inR_iff, IntKind.bits]
                refine And.intro ?_ ?_
                · exact rfl
                refine And.intro trivial ?_
                refine And.intro ?_ ⟨_, _, .inr (.inl ⟨fun hv => ?_, rfl, rfl⟩), ?_⟩
                · simp [AllP, under, gB, wB, inR_iff, IntKind.bits]
                · have hm := hv.2.2.2.1 i hlt'
                  simp only [TD.markOk] at hm
                  rw [ei'] at hb
                  simp [inB, hiB, gB, wB] at h2 hb
                  omega
                · exact ent_tau [0, 1, 2, 3, 4] ⟨by (repeat' (first | exact trivial | exact rfl | exact fun _ _ => rfl | exact Or.inl rfl | refine And.intro ?_ ?_)), by (repeat' (first | exact trivial | exact rfl | exact congrArg (SV.int .i64) (Int.natCast_succ _).symm | refine And.intro ?_ ?_)), rfl⟩
          · refine And.intro (And.intro ?_ ?_) trivial
            · simp [AllP, under, gB, wB, inR_iff, IntKind.bits]
              simpa [gB, wB] using h2
            · have h2' : inB (t.mi i) 0 240 = false := by simpa [gB, wB] using h2
              refine must (fun hb => ?_) (fun hb => ?_)
              · simp [h2'] at hb
              · refine And.intro ?_ ?_
                · simp [AllP, under, gB, wB, inR_iff, IntKind.bits]
                refine And.intro ?_ ?_
                · exact rfl
                refine And.intro trivial ?_
                refine And.intro ?_ ⟨_, _, .inr (.inl ⟨fun hv => ?_, rfl, rfl⟩), ?_⟩
                · simp [AllP, under, gB, wB, inR_iff, IntKind.bits]
                · have hm := hv.2.2.2.1 i hlt'
                  simp only [TD.markOk] at hm
                  simp [inB, gB, wB] at h2
                  omega
                · exact ent_tau [0, 1, 2, 3, 4] ⟨by (repeat' (first | exact trivial | exact rfl | exact fun _ _ => rfl | exact Or.inl rfl | refine And.intro ?_ ?_)), by (repeat' (first | exact trivial | exact rfl | exact congrArg (SV.int .i64) (Int.natCast_succ _).symm | refine And.intro ?_ ?_)), rfl⟩
        · have hiM : i = t.nM := by
            have : ¬ (i < t.nM) := by simpa using hlt
            omega
          subst hiM
          refine And.intro ?_ ?_
          · simp [AllP, under, gB, wB, inR_iff, IntKind.bits]
          refine And.intro trivial ?_
          refine ⟨t.F, ?_⟩
          refine And.intro ?_ ?_
          · simp [AllP, under, gB, wB, inR_iff, IntKind.bits]
          refine loopP E_ok [0, 1, 2, 5, 8, 71, 72] (fun i : Nat => [(73, .int .i64 i)]) (fun _ H => H) (fun i => i ≤ t.nS ∧ ∀ j, j < i → t.sandOk j) (fun i => t.nS - i) 0 ⟨Nat.zero_le _, fun j h => by omega⟩ ?_ ?_
          · exact ent_tau [0, 1, 2, 3, 4, 5, 6, 7] ⟨by (repeat' (first | exact trivial | exact rfl | exact fun _ _ => rfl | exact Or.inl rfl | refine And.intro ?_ ?_)), by (repeat' (first | exact trivial | exact rfl | exact congrArg (SV.int .i64) (Int.natCast_succ _).symm | refine And.intro ?_ ?_)), rfl⟩
          · rintro i ⟨hi, hsand⟩
            refine And.intro ?_ (And.intro (fun hlt2 => ?_) (fun hlt2 => ?_))
            · simp [AllP, under, gB, wB, inR_iff, IntKind.bits]
            · have hlt' : i < t.nS := by simpa using hlt2
              have ei : (0 + (i : Int).toNat) = i := by omega
              refine And.intro ?_ ?_
              · simp [AllP, under, gB, wB, inR_iff, IntKind.bits]
                omega
              rw [ei]
              refine (t95 _ _).use [] ?_ (by (repeat' (first | exact trivial | exact rfl | exact fun _ _ => rfl | exact Or.inl rfl | refine And.intro ?_ ?_))) rfl
              refine And.intro ?_ ?_
              · simp [AllP, under, gB, wB, inR_iff, IntKind.bits]
              refine must (fun hb => ?_) (fun hb => ?_)
              · refine And.intro ?_ ⟨i + 1, ⟨hlt', fun j hj => ?_⟩, by omega, ?_⟩
                · simp [AllP, under, gB, wB, inR_iff, IntKind.bits]
                  omega
                · rcases Nat.lt_or_ge j i with hji | hji
                  · exact hsand j hji
                  · have : j = i := by omega
                    subst this
                    simp [hiB] at hb
                    simp only [TD.sandOk]
                    omega
                · exact ent_tau [0, 1, 2, 3, 4, 5, 6, 7] ⟨by (repeat' (first | exact trivial | exact rfl | exact fun _ _ => rfl | exact Or.inl rfl | refine And.intro ?_ ?_)), by (repeat' (first | exact trivial | exact rfl | exact congrArg (SV.int .i64) (Int.natCast_succ _).symm | refine And.intro ?_ ?_)), rfl⟩
              · refine And.intro ?_ ?_
                · simp [AllP, under, gB, wB, inR_iff, IntKind.bits]
                refine And.intro ?_ ⟨_, _, .inr (.inl ⟨fun hv => ?_, rfl, rfl⟩), ?_⟩
                · simp [AllP, under, gB, wB, inR_iff, IntKind.bits]
                · have hm := hv.2.2.2.2.1 i hlt'
                  simp only [TD.sandOk] at hm
                  simp [hiB] at hb
                  omega
                · exact ent_tau [0, 1, 2, 3, 4] ⟨by (repeat' (first | exact trivial | exact rfl | exact fun _ _ => rfl | exact Or.inl rfl | refine And.intro ?_ ?_)), by (repeat' (first | exact trivial | exact rfl | exact congrArg (SV.int .i64) (Int.natCast_succ _).symm | refine And.intro ?_ ?_)), rfl⟩
            · have hiS : i = t.nS := by
                have : ¬ (i < t.nS) := by simpa using hlt2
                omega
              subst hiS
              refine And.intro ?_ ?_
              · simp [AllP, under, gB, wB, inR_iff, IntKind.bits]
              refine And.intro trivial ?_
              refine loopP E_ok [0, 1, 8, 83, 84] (fun i : Nat => [(85, .int .i64 i)]) (fun _ H => H) (fun i => i ≤ t.nL ∧ ∀ j, j < i → t.lookOk j) (fun i => t.nL - i) 0 ⟨Nat.zero_le _, fun j h => by omega⟩ ?_ ?_
              · exact ent_tau [0, 1, 2, 3, 4, 5, 6, 7] ⟨by (repeat' (first | exact trivial | exact rfl | exact fun _ _ => rfl | exact Or.inl rfl | refine And.intro ?_ ?_)), by (repeat' (first | exact trivial | exact rfl | exact congrArg (SV.int .i64) (Int.natCast_succ _).symm | refine And.intro ?_ ?_)), rfl⟩
              · rintro i ⟨hi, hlook⟩
                refine And.intro ?_ (And.intro (fun hlt3 => ?_) (fun hlt3 => ?_))
                · simp [AllP, under, gB, wB, inR_iff, IntKind.bits]
                · have hlt' : i < t.nL := by simpa using hlt3
                  have ei : (0 + (i : Int).toNat) = i := by omega
                  refine And.intro ?_ ?_
                  · simp [AllP, under, gB, wB, inR_iff, IntKind.bits]
                    omega
                  rw [ei]
                  refine (t46 t (by omega) (t.lp i)).use [7, 0, 1, 2, 6] ?_ (by (repeat' (first | exact trivial | exact rfl | exact fun _ _ => rfl | exact Or.inl rfl | refine And.intro ?_ ?_))) rfl
                  refine And.intro ?_ (And.intro (fun h6 => ?_) (fun h6 => ?_))
                  · simp [AllP, under, gB, wB, inR_iff, IntKind.bits]
                  · have h6' : inB (t.lp i) 0 (t.nS - 1) = true := by simpa [gB, wB] using h6
                    refine (t57 t (by omega) (by omega) (t.lm i)).use [7, 0, 1, 2, 6] ?_ (by (repeat' (first | exact trivial | exact rfl | exact fun _ _ => rfl | exact Or.inl rfl | refine And.intro ?_ ?_))) rfl
                    refine And.intro ?_ (And.intro (fun h7 => ?_) (fun h7 => ?_))
                    · simp [AllP, under, gB, wB, inR_iff, IntKind.bits]
                    · have h7' : inB (t.lm i) (t.mi 0) (t.mi (t.nM - 1)) = true := by simpa [gB, wB, h6'] using h7
                      refine (t96 _ _).use [] ?_ (by (repeat' (first | exact trivial | exact rfl | exact fun _ _ => rfl | exact Or.inl rfl | refine And.intro ?_ ?_))) rfl
                      refine And.intro ?_ ?_
                      · simp [AllP, under, gB, wB, inR_iff, IntKind.bits]
                      refine must (fun hb => ?_) (fun hb => ?_)
                      · refine And.intro ?_ ⟨i + 1, ⟨hlt', fun j hj => ?_⟩, by omega, ?_⟩
                        · simp [AllP, under, gB, wB, inR_iff, IntKind.bits]
                          omega
                        · rcases Nat.lt_or_ge j i with hji | hji
                          · exact hlook j hji
                          · have : j = i := by omega
                            subst this
                            simp [inB, hiB, gB, wB] at hb h6' h7'
                            simp only [TD.lookOk]
                            omega
                        · exact ent_tau [0, 1, 2, 3, 4, 5, 6, 7] ⟨by (repeat' (first | exact trivial | exact rfl | exact fun _ _ => rfl | exact Or.inl rfl | refine And.intro ?_ ?_)), by (repeat' (first | exact trivial | exact rfl | exact congrArg (SV.int .i64) (Int.natCast_succ _).symm | refine And.intro ?_ ?_)), rfl⟩
                      · refine And.intro ?_ ?_
                        · simp [AllP, under, gB, wB, inR_iff, IntKind.bits]
                        refine And.intro ?_ ⟨_, _, .inr (.inl ⟨fun hv => ?_, rfl, rfl⟩), ?_⟩
                        · simp [AllP, under, gB, wB, inR_iff, IntKind.bits]
                        · have hm := hv.2.2.2.2.2 i hlt'
                          simp only [TD.lookOk] at hm
                          simp [inB, hiB, gB, wB, h6', h7'] at hb h6' h7'
                          omega
                        · exact ent_tau [0, 1, 2, 3, 4] ⟨by (repeat' (first | exact trivial | exact rfl | exact fun _ _ => rfl | exact Or.inl rfl | refine And.intro ?_ ?_)), by (repeat' (first | exact trivial | exact rfl | exact congrArg (SV.int .i64) (Int.natCast_succ _).symm | refine And.intro ?_ ?_)), rfl⟩
                    · have h7' : inB (t.lm i) (t.mi 0) (t.mi (t.nM - 1)) = false := by simpa [gB, wB, h6'] using h7
                      refine And.intro ?_ ?_
                      · simp [AllP, under, gB, wB, inR_iff, IntKind.bits]
                        simp [h6', h7']
                      refine must (fun hb => ?_) (fun hb => ?_)
                      · simp [h6', h7'] at hb
                      · refine And.intro ?_ ?_
                        · simp [AllP, under, gB, wB, inR_iff, IntKind.bits]
                        refine And.intro ?_ ⟨_, _, .inr (.inl ⟨fun hv => ?_, rfl, rfl⟩), ?_⟩
                        · simp [AllP, under, gB, wB, inR_iff, IntKind.bits]
                        · have hm := hv.2.2.2.2.2 i hlt'
                          simp only [TD.lookOk] at hm
                          simp [inB, hiB, gB, wB] at h6' h7'
                          omega
                        · exact ent_tau [0, 1, 2, 3, 4] ⟨by (repeat' (first | exact trivial | exact rfl | exact fun _ _ => rfl | exact Or.inl rfl | refine And.intro ?_ ?_)), by (repeat' (first | exact trivial | exact rfl | exact congrArg (SV.int .i64) (Int.natCast_succ _).symm | refine And.intro ?_ ?_)), rfl⟩
                  · have h6' : inB (t.lp i) 0 (t.nS - 1) = false := by simpa [gB, wB] using h6
                    refine And.intro ?_ (And.intro (fun h7 => ?_) (fun h7 => ?_))
                    · simp [AllP, under, gB, wB, inR_iff, IntKind.bits]
                      exact h6'
                    · simp [gB, wB, h6'] at h7
                    · refine And.intro ?_ ?_
                      · simp [AllP, under, gB, wB, inR_iff, IntKind.bits]
                      refine must (fun hb => ?_) (fun hb => ?_)
                      · simp [h6'] at hb
                      · refine And.intro ?_ ?_
                        · simp [AllP, under, gB, wB, inR_iff, IntKind.bits]
                        refine And.intro ?_ ⟨_, _, .inr (.inl ⟨fun hv => ?_, rfl, rfl⟩), ?_⟩
                        · simp [AllP, under, gB, wB, inR_iff, IntKind.bits]
                        · have hm := hv.2.2.2.2.2 i hlt'
                          simp only [TD.lookOk] at hm
                          simp [inB, hiB, gB, wB] at h6'
                          omega
                        · exact ent_tau [0, 1, 2, 3, 4] ⟨by (repeat' (first | exact trivial | exact rfl | exact fun _ _ => rfl | exact Or.inl rfl | refine And.intro ?_ ?_)), by (repeat' (first | exact trivial | exact rfl | exact congrArg (SV.int .i64) (Int.natCast_succ _).symm | refine And.intro ?_ ?_)), rfl⟩
                · have hiL : i = t.nL := by
                    have : ¬ (i < t.nL) := by simpa using hlt3
                    omega
                  subst hiL
                  have hv : t.Valid := ⟨hM, hS, hL, hall, hsand, hlook⟩
                  refine And.intro ?_ ?_
                  · simp [AllP, under, gB, wB, inR_iff, IntKind.bits]
                  rcases hf with rfl
                  · refine And.intro ?_ ?_
                    · simp [AllP, under, gB, wB, inR_iff, IntKind.bits]
                    refine (his hv).use [7, 0, 1, 2, 6, 3, 4] ?_ (by (repeat' (first | exact trivial | exact rfl | exact fun _ _ => rfl | exact Or.inl rfl | refine And.intro ?_ ?_))) rfl
                    refine And.intro ?_ ?_
                    · simp [AllP, under, gB, wB, inR_iff, IntKind.bits]
                    refine must (fun hb => ?_) (fun hb => ?_)
                    · refine And.intro ?_ ⟨_, _, .inl ⟨hv, hb, rfl, rfl⟩, ?_⟩
                      · simp [AllP, under, gB, wB, inR_iff, IntKind.bits]
                      exact ent_tau [0, 1, 2, 3, 4, 7, 6] ⟨by (repeat' (first | exact trivial | exact rfl | exact fun _ _ => rfl | exact Or.inl rfl | refine And.intro ?_ ?_)), by (repeat' (first | exact trivial | exact rfl | exact congrArg (SV.int .i64) (Int.natCast_succ _).symm | refine And.intro ?_ ?_)), rfl⟩
                    · refine And.intro ?_ ⟨_, _, .inr (.inr ⟨hv, hb, rfl, rfl⟩), ?_⟩
                      · simp [AllP, under, gB, wB, inR_iff, IntKind.bits]
                      exact ent_tau [0, 1, 2, 3, 4] ⟨by (repeat' (first | exact trivial | exact rfl | exact fun _ _ => rfl | exact Or.inl rfl | refine And.intro ?_ ?_)), by (repeat' (first | exact trivial | exact rfl | exact congrArg (SV.int .i64) (Int.natCast_succ _).symm | refine And.intro ?_ ?_)), rfl⟩
    · refine And.intro ?_ ⟨_, _, .inr (.inl ⟨fun hv => ?_, rfl, rfl⟩), ?_⟩
      · simp [AllP, under, gB, wB, inR_iff, IntKind.bits]
      · have h3 := hv.1
        have h4 := hv.2.1
        have h5 := hv.2.2.1
        simp [inB, gB, wB] at hb h1
        omega
      · exact ent_tau [0, 1, 2, 3, 4] ⟨by (repeat' (first | exact trivial | exact rfl | exact fun _ _ => rfl | exact Or.inl rfl | refine And.intro ?_ ?_)), by (repeat' (first | exact trivial | exact rfl | exact congrArg (SV.int .i64) (Int.natCast_succ _).symm | refine And.intro ?_ ?_)), rfl⟩
  · have h1' : inB (t.nM : Int) 2 4 = false := by simpa [gB, wB] using h1
    refine And.intro ?_ ?_
    · simp [AllP, under, gB, wB, inR_iff, IntKind.bits]
      exact h1'
    refine must (fun hb => ?_) (fun hb => ?_)
    · simp [h1'] at hb
    · refine And.intro ?_ ⟨_, _, .inr (.inl ⟨fun hv => ?_, rfl, rfl⟩), ?_⟩
      · simp [AllP, under, gB, wB, inR_iff, IntKind.bits]
      · have h3 := hv.1
        simp [inB, gB, wB] at h1
        omega
      · exact ent_tau [0, 1, 2, 3, 4] ⟨by (repeat' (first | exact trivial | exact rfl | exact fun _ _ => rfl | exact Or.inl rfl | refine And.intro ?_ ?_)), by (repeat' (first | exact trivial | exact rfl | exact congrArg (SV.int .i64) (Int.natCast_succ _).symm | refine And.intro ?_ ?_)), rfl⟩
end Go.Proofs.YtipbempkngfdbaaGreatDoor
/-
  Contracts: tide.Sand and tide.Depth.
-/
namespace Go.Proofs.YtipbempkngfdbaaGreatDoor
open Go Go.Sy
set_option linter.unusedSimpArgs false
set_option maxRecDepth 100000
set_option maxHeartbeats 4000000
attribute [local irreducible] CallP CodeP Ent YieldP
set_option maxHeartbeats 800000

def TD.isPl (t : TD) (p : Int) : Prop := 0 ≤ p ∧ p ≤ t.nS - 1
theorem t84 (t : TD) (p : Int) (hv : t.Valid) : CallP Tryz.prog 46 [.ptr 0 0, .ptr 5 0] (t.shore ++ [some (.roc [.int .i64 p])]) (Ret (.bool (inB p 0 (t.nS - 1))) (t.shore ++ [some (.roc [.int .i64 p])])) := by
  have hS := hv.2.1
  refine callR (E := E) E_ok Tryz.func46 rfl ?_
  refine And.intro ?_ ?_
  · simp [AllP, under, gB, wB, inR_iff, IntKind.bits]
  refine (t46 t (by omega) p).use [0, 1, 2, 3, 4] ?_ (by (repeat' (first | exact trivial | exact rfl | exact fun _ _ => rfl | exact Or.inl rfl | refine And.intro ?_ ?_))) rfl
  refine And.intro ?_ ?_
  · simp [AllP, under, gB, wB, inR_iff, IntKind.bits]
  exact ent_tau [0, 1, 2, 3, 4, 5] ⟨by (repeat' (first | exact trivial | exact rfl | exact fun _ _ => rfl | exact Or.inl rfl | refine And.intro ?_ ?_)), by (repeat' (first | exact trivial | exact rfl | exact congrArg (SV.int .i64) (Int.natCast_succ _).symm | refine And.intro ?_ ?_)), rfl⟩
theorem t77 (t : TD) (p m : Int) (hv : t.Valid) : CallP Tryz.prog 40 [.ptr 0 0, .ptr 5 0, .ptr 6 0] (t.shore ++ [some (.roc [.int .i64 p]), some (.roc [.int .i64 m])]) (Ret (.bool (inB p 0 (t.nS - 1) && inB m (t.mi 0) (t.mi (t.nM - 1)))) (t.shore ++ [some (.roc [.int .i64 p]), some (.roc [.int .i64 m])])) := by
  have hS := hv.2.1
  have hM := hv.1
  refine callR (E := E) E_ok Tryz.func40 rfl ?_
  refine And.intro ?_ ?_
  · simp [AllP, under, gB, wB, inR_iff, IntKind.bits]
  refine (t46 t (by omega) p).use [0, 1, 2, 3, 4] ?_ (by (repeat' (first | exact trivial | exact rfl | exact fun _ _ => rfl | exact Or.inl rfl | refine And.intro ?_ ?_))) rfl
  refine And.intro ?_ (And.intro (fun hc => ?_) (fun hc => ?_))
  · simp [AllP, under, gB, wB, inR_iff, IntKind.bits]
  · refine (t57 t (by omega) (by omega) m).use [0, 1, 2, 3, 4] ?_ (by (repeat' (first | exact trivial | exact rfl | exact fun _ _ => rfl | exact Or.inl rfl | refine And.intro ?_ ?_))) rfl
    refine And.intro ?_ ?_
    · simp [AllP, under, gB, wB, inR_iff, IntKind.bits]
    refine ent_tau [0, 1, 2, 3, 4, 5, 6] ⟨by (repeat' (first | exact trivial | exact rfl | exact fun _ _ => rfl | exact Or.inl rfl | refine And.intro ?_ ?_)), ⟨rfl, ?_, trivial⟩, rfl⟩
    refine congrArg SV.bool ?_
    cases inB p 0 (t.nS - 1) <;> rfl
  · have hc' : inB p 0 (t.nS - 1) = false := by simpa [gB, wB] using hc
    refine And.intro ?_ ?_
    · simp [AllP, under, gB, wB, inR_iff, IntKind.bits]
      exact hc'
    refine ent_tau [0, 1, 2, 3, 4, 5, 6] ⟨by (repeat' (first | exact trivial | exact rfl | exact fun _ _ => rfl | exact Or.inl rfl | refine And.intro ?_ ?_)), ⟨rfl, ?_, trivial⟩, rfl⟩
    refine congrArg SV.bool ?_
    rw [hc']
    rfl
open Classical in
noncomputable def TD.sandT (t : TD) (p : Int) : Told (Int × Int) :=
  if ¬ t.Valid then ⟨(0, 0), 1⟩ else if ¬ t.isPl p then ⟨(0, 0), 2⟩ else if t.all = [] then ⟨(0, 0), 10⟩ else ⟨(hulLo (fun x => loE (x.s p.toNat)) t.all t.all.length, hulHi (fun x => hiE (x.s p.toNat)) t.all t.all.length), 0⟩
theorem t31 (t : TD) (p : Int) : CallP Tryz.prog 10 [t.A, .int .i64 p] t.HG (Ret (.tup [.agg [.int .i64 (t.sandT p).v.1, .int .i64 (t.sandT p).v.2], .int .i64 (t.sandT p).e]) t.HG) := by
  refine callD (E := E) E_ok Tryz.func10 rfl Tryz.func45 ⟨_, _, _, _, _, _, _, _, rfl, rfl, rfl⟩ rfl rfl ?_
  refine And.intro ?_ ?_
  · simp [AllP, under, gB, wB, inR_iff, IntKind.bits]
  refine CallP.frame (t44_1 t p 46 (.inr (.inl rfl)) _ (t84 t p)) [0, 1, 2, 6] (by (repeat' (first | exact trivial | exact rfl | exact fun _ _ => rfl | exact Or.inl rfl | refine And.intro ?_ ?_))) (apartB_ok rfl) rfl ?_
  rintro ce h' (⟨hv, hb, rfl, rfl⟩ | ⟨hv, rfl, rfl⟩ | ⟨hv, hb, rfl, rfl⟩)
  · refine ⟨ownB_ok rfl, ?_⟩
    have hm : t.isPl p := inB_iff.1 hb
    refine And.intro ?_ ?_
    · simp [AllP, under, gB, wB, inR_iff, IntKind.bits]
    refine CallP.frame (t48 t hv) [9, 0, 1, 2, 10, 3] (by (repeat' (first | exact trivial | exact rfl | exact fun _ _ => rfl | exact Or.inl rfl | refine And.intro ?_ ?_))) (apartB_ok rfl) rfl ?_
    rintro ce h' (⟨h0, rfl, rfl⟩ | ⟨h0, cap, hc1, hc2, rfl, rfl⟩)
    · refine ⟨ownB_ok rfl, ?_⟩
      have e0 : t.sandT p = ⟨(0, 0), 10⟩ := by simp [TD.sandT, hv, hm, h0]
      refine And.intro ?_ ?_
      · simp [AllP, under, gB, wB, inR_iff, IntKind.bits]
      refine (t43_stop 0 10).use [8] ?_ (by (repeat' (first | exact trivial | exact rfl | exact fun _ _ => rfl | exact Or.inl rfl | refine And.intro ?_ ?_))) rfl
      refine And.intro ?_ ⟨_, _, ⟨rfl, rfl⟩, ?_⟩
      · simp [AllP, under, gB, wB, inR_iff, IntKind.bits]
      rw [e0]
      exact ent_tau [0, 1, 2, 3, 4] ⟨by (repeat' (first | exact trivial | exact rfl | exact fun _ _ => rfl | exact Or.inl rfl | refine And.intro ?_ ?_)), by (repeat' (first | exact trivial | exact rfl | exact congrArg (SV.int .i64) (Int.natCast_succ _).symm | refine And.intro ?_ ?_)), rfl⟩
    · refine ⟨ownB_ok rfl, ?_⟩
      have hne : ¬ t.all = [] := fun h => by rw [h] at h0; simp at h0
      have e0 : t.sandT p = ⟨(hulLo (fun x => loE (x.s p.toNat)) t.all t.all.length, hulHi (fun x => hiE (x.s p.toNat)) t.all t.all.length), 0⟩ := by simp [TD.sandT, hv, hm, hne]
      have hlen := all_len hv
      obtain ⟨q, hq⟩ := Int.eq_ofNat_of_zero_le hm.1
      subst hq
      have hq2 := hm.2
      rw [Int.toNat_natCast] at e0
      refine And.intro ?_ ?_
      · simp [AllP, under, gB, wB, inR_iff, IntKind.bits]
      refine (span85 t hv q (by omega) t.all (all_full hv) (by omega) cap).use [9, 0, 1, 2, 10, 3, 6, 4, 11] ?_ (by (repeat' (first | exact trivial | exact rfl | exact fun _ _ => rfl | exact Or.inl rfl | refine And.intro ?_ ?_))) rfl
      refine And.intro ?_ ?_
      · simp [AllP, under, gB, wB, inR_iff, IntKind.bits]
      refine (t43_nil 0).use [8] ?_ (by (repeat' (first | exact trivial | exact rfl | exact fun _ _ => rfl | exact Or.inl rfl | refine And.intro ?_ ?_))) rfl
      refine And.intro ?_ ⟨_, _, ⟨rfl, rfl⟩, ?_⟩
      · simp [AllP, under, gB, wB, inR_iff, IntKind.bits]
      rw [e0]
      exact ent_tau [0, 1, 2, 3, 4] ⟨by (repeat' (first | exact trivial | exact rfl | exact fun _ _ => rfl | exact Or.inl rfl | refine And.intro ?_ ?_)), by (repeat' (first | exact trivial | exact rfl | exact congrArg (SV.int .i64) (Int.natCast_succ _).symm | refine And.intro ?_ ?_)), rfl⟩
  · refine ⟨ownB_ok rfl, ?_⟩
    have e0 : t.sandT p = ⟨(0, 0), 1⟩ := by simp [TD.sandT, hv]
    refine And.intro ?_ ?_
    · simp [AllP, under, gB, wB, inR_iff, IntKind.bits]
    refine (t43_stop 0 1).use [8] ?_ (by (repeat' (first | exact trivial | exact rfl | exact fun _ _ => rfl | exact Or.inl rfl | refine And.intro ?_ ?_))) rfl
    refine And.intro ?_ ⟨_, _, ⟨rfl, rfl⟩, ?_⟩
    · simp [AllP, under, gB, wB, inR_iff, IntKind.bits]
    rw [e0]
    exact ent_tau [0, 1, 2, 3, 4] ⟨by (repeat' (first | exact trivial | exact rfl | exact fun _ _ => rfl | exact Or.inl rfl | refine And.intro ?_ ?_)), by (repeat' (first | exact trivial | exact rfl | exact congrArg (SV.int .i64) (Int.natCast_succ _).symm | refine And.intro ?_ ?_)), rfl⟩
  · refine ⟨ownB_ok rfl, ?_⟩
    have hm : ¬ t.isPl p := fun h => by rw [inB_iff.2 h] at hb; cases hb
    have e0 : t.sandT p = ⟨(0, 0), 2⟩ := by simp [TD.sandT, hv, hm]
    refine And.intro ?_ ?_
    · simp [AllP, under, gB, wB, inR_iff, IntKind.bits]
    refine (t43_stop 0 2).use [8] ?_ (by (repeat' (first | exact trivial | exact rfl | exact fun _ _ => rfl | exact Or.inl rfl | refine And.intro ?_ ?_))) rfl
    refine And.intro ?_ ⟨_, _, ⟨rfl, rfl⟩, ?_⟩
    · simp [AllP, under, gB, wB, inR_iff, IntKind.bits]
    rw [e0]
    exact ent_tau [0, 1, 2, 3, 4] ⟨by (repeat' (first | exact trivial | exact rfl | exact fun _ _ => rfl | exact Or.inl rfl | refine And.intro ?_ ?_)), by (repeat' (first | exact trivial | exact rfl | exact congrArg (SV.int .i64) (Int.natCast_succ _).symm | refine And.intro ?_ ?_)), rfl⟩

noncomputable def B50 (t : TD) (g : List Tr) : SHeap := [some (.roc [.osl t.bM 1 3 t.nM t.cM, .osl t.bS 2 2 t.nS t.cS, .osl t.bL 3 4 t.nL t.cL, .map 4]),
  some (.roa 3 t.nM (row3 t.mi t.mlo t.mhi)), some (.roa 2 t.nS (row2 t.slo t.shi)), some (.roa 4 t.nL (row4 t.lp t.lm t.llo t.lhi)), some (.memo 5 t.F []),
  some (.glob 0 [.int .i64 0, .int .i64 1, .int .i64 3, .int .i64 6, .int .i64 9, .int .i64 11, .int .i64 12]), some (.roa 8 g.length (rows g)), some db]
theorem t50 (t : TD) (hv : t.Valid) (g : List Tr) (hg : ∀ x ∈ g, fullTr t x) (hl : g.length ≤ 1000) (cp : Nat) (p : Nat) (m : Int) (hm : t.isMin m) (hp : p < t.nS) :
    CallP Tryz.prog 42 [.ptr 0 0, .slice 6 8 0 g.length cp, .int .i64 p, .int .i64 m] (B50 t g)
      (Ret (.agg [.int .i64 (hulLo (a98 t m p) g g.length), .int .i64 (hulHi (b98 t m p) g g.length)]) (B50 t g)) := by
  refine callR (E := E) E_ok Tryz.func42 rfl ?_
  refine And.intro ?_ ?_
  · simp [AllP, under, gB, wB, inR_iff, IntKind.bits]
  refine (span98 t hv m p hm hp g hg hl cp).use [0, 1, 2, 3, 4, 5, 8, 10, 9, 7, 6] ?_ (by (repeat' (first | exact trivial | exact rfl | exact fun _ _ => rfl | exact Or.inl rfl | refine And.intro ?_ ?_))) rfl
  refine And.intro ?_ ?_
  · simp [AllP, under, gB, wB, inR_iff, IntKind.bits]
  exact ent_tau [0, 1, 2, 3, 4, 5, 6, 7] ⟨by (repeat' (first | exact trivial | exact rfl | exact fun _ _ => rfl | exact Or.inl rfl | refine And.intro ?_ ?_)), by (repeat' (first | exact trivial | exact rfl | exact congrArg (SV.int .i64) (Int.natCast_succ _).symm | refine And.intro ?_ ?_)), rfl⟩
open Classical in
noncomputable def TD.depthT (t : TD) (p m : Int) : Told (Int × Int) :=
  if ¬ t.Valid then ⟨(0, 0), 1⟩ else if ¬ (t.isPl p ∧ t.isMin m) then ⟨(0, 0), 2⟩ else if t.all = [] then ⟨(0, 0), 10⟩ else ⟨(hulLo (a98 t m p.toNat) t.all t.all.length, hulHi (b98 t m p.toNat) t.all t.all.length), 0⟩
theorem t25 (t : TD) (p m : Int) : CallP Tryz.prog 8 [t.A, .int .i64 p, .int .i64 m] t.HG (Ret (.tup [.agg [.int .i64 (t.depthT p m).v.1, .int .i64 (t.depthT p m).v.2], .int .i64 (t.depthT p m).e]) t.HG) := by
  refine callD (E := E) E_ok Tryz.func8 rfl Tryz.func39 ⟨_, _, _, _, _, _, _, _, rfl, rfl, rfl⟩ rfl rfl ?_
  refine And.intro ?_ ?_
  · simp [AllP, under, gB, wB, inR_iff, IntKind.bits]
  refine CallP.frame (t44_2 t p m 40 rfl _ (t77 t p m)) [0, 1, 2, 6, 7] (by (repeat' (first | exact trivial | exact rfl | exact fun _ _ => rfl | exact Or.inl rfl | refine And.intro ?_ ?_))) (apartB_ok rfl) rfl ?_
  rintro ce h' (⟨hv, hb, rfl, rfl⟩ | ⟨hv, rfl, rfl⟩ | ⟨hv, hb, rfl, rfl⟩)
  · refine ⟨ownB_ok rfl, ?_⟩
    rw [Bool.and_eq_true] at hb
    have hpm : t.isPl p ∧ t.isMin m := ⟨inB_iff.1 hb.1, inB_iff.1 hb.2⟩
    refine And.intro ?_ ?_
    · simp [AllP, under, gB, wB, inR_iff, IntKind.bits]
    refine drawQ E_ok [6, 7] pl8_3 (by kernel_rfl) ?_
    refine And.intro (And.intro ?_ ?_) trivial
    · simp [AllP, under, gB, wB, inR_iff, IntKind.bits]
    refine CallP.frame (t48 t hv) [10, 0, 1, 2, 11, 3] (by (repeat' (first | exact trivial | exact rfl | exact fun _ _ => rfl | exact Or.inl rfl | refine And.intro ?_ ?_))) (apartB_ok rfl) rfl ?_
    rintro ce h' (⟨h0, rfl, rfl⟩ | ⟨h0, cap, hc1, hc2, rfl, rfl⟩)
    · refine ⟨ownB_ok rfl, ?_⟩
      have e0 : t.depthT p m = ⟨(0, 0), 10⟩ := by simp [TD.depthT, hv, hpm, h0]
      refine And.intro ?_ ?_
      · simp [AllP, under, gB, wB, inR_iff, IntKind.bits]
      refine And.intro ?_ ?_
      · exact rfl
      refine And.intro ?_ ?_
      · simp [AllP, under, gB, wB, inR_iff, IntKind.bits]
      refine (t43_stop 0 10).use [9] ?_ (by (repeat' (first | exact trivial | exact rfl | exact fun _ _ => rfl | exact Or.inl rfl | refine And.intro ?_ ?_))) rfl
      refine And.intro ?_ ⟨_, _, ⟨rfl, rfl⟩, ?_⟩
      · simp [AllP, under, gB, wB, inR_iff, IntKind.bits]
      rw [e0]
      exact ent_tau [0, 1, 2, 3, 4] ⟨by (repeat' (first | exact trivial | exact rfl | exact fun _ _ => rfl | exact Or.inl rfl | refine And.intro ?_ ?_)), by (repeat' (first | exact trivial | exact rfl | exact congrArg (SV.int .i64) (Int.natCast_succ _).symm | refine And.intro ?_ ?_)), rfl⟩
    · refine ⟨ownB_ok rfl, ?_⟩
      have hne : ¬ t.all = [] := fun h => by rw [h] at h0; simp at h0
      have e0 : t.depthT p m = ⟨(hulLo (a98 t m p.toNat) t.all t.all.length, hulHi (b98 t m p.toNat) t.all t.all.length), 0⟩ := by simp [TD.depthT, hv, hpm, hne]
      have hlen := all_len hv
      obtain ⟨q, hq⟩ := Int.eq_ofNat_of_zero_le hpm.1.1
      subst hq
      have hq2 := hpm.1.2
      rw [Int.toNat_natCast] at e0
      refine And.intro (And.intro ?_ ?_) trivial
      · simp [AllP, under, gB, wB, inR_iff, IntKind.bits]
      refine (t50 t hv t.all (all_full hv) (by omega) cap q m hpm.2 (by omega)).use [10, 0, 1, 2, 11, 3, 12, 4] ?_ (by (repeat' (first | exact trivial | exact rfl | exact fun _ _ => rfl | exact Or.inl rfl | refine And.intro ?_ ?_))) rfl
      refine And.intro (And.intro ?_ trivial) trivial
      refine And.intro ?_ ?_
      · simp [AllP, under, gB, wB, inR_iff, IntKind.bits]
      refine And.intro ?_ ?_
      · exact rfl
      refine And.intro ?_ ?_
      · simp [AllP, under, gB, wB, inR_iff, IntKind.bits]
      refine (t43_nil 0).use [9] ?_ (by (repeat' (first | exact trivial | exact rfl | exact fun _ _ => rfl | exact Or.inl rfl | refine And.intro ?_ ?_))) rfl
      refine And.intro ?_ ⟨_, _, ⟨rfl, rfl⟩, ?_⟩
      · simp [AllP, under, gB, wB, inR_iff, IntKind.bits]
      rw [e0]
      exact ent_tau [0, 1, 2, 3, 4] ⟨by (repeat' (first | exact trivial | exact rfl | exact fun _ _ => rfl | exact Or.inl rfl | refine And.intro ?_ ?_)), by (repeat' (first | exact trivial | exact rfl | exact congrArg (SV.int .i64) (Int.natCast_succ _).symm | refine And.intro ?_ ?_)), rfl⟩
  · refine ⟨ownB_ok rfl, ?_⟩
    have e0 : t.depthT p m = ⟨(0, 0), 1⟩ := by simp [TD.depthT, hv]
    refine And.intro ?_ ?_
    · simp [AllP, under, gB, wB, inR_iff, IntKind.bits]
    refine (t43_stop 0 1).use [9] ?_ (by (repeat' (first | exact trivial | exact rfl | exact fun _ _ => rfl | exact Or.inl rfl | refine And.intro ?_ ?_))) rfl
    refine And.intro ?_ ⟨_, _, ⟨rfl, rfl⟩, ?_⟩
    · simp [AllP, under, gB, wB, inR_iff, IntKind.bits]
    rw [e0]
    exact ent_tau [0, 1, 2, 3, 4] ⟨by (repeat' (first | exact trivial | exact rfl | exact fun _ _ => rfl | exact Or.inl rfl | refine And.intro ?_ ?_)), by (repeat' (first | exact trivial | exact rfl | exact congrArg (SV.int .i64) (Int.natCast_succ _).symm | refine And.intro ?_ ?_)), rfl⟩
  · refine ⟨ownB_ok rfl, ?_⟩
    have hpm : ¬ (t.isPl p ∧ t.isMin m) := fun h => by rw [inB_iff.2 h.1, inB_iff.2 h.2] at hb; cases hb
    have e0 : t.depthT p m = ⟨(0, 0), 2⟩ := by simp [TD.depthT, hv, hpm]
    refine And.intro ?_ ?_
    · simp [AllP, under, gB, wB, inR_iff, IntKind.bits]
    refine (t43_stop 0 2).use [9] ?_ (by (repeat' (first | exact trivial | exact rfl | exact fun _ _ => rfl | exact Or.inl rfl | refine And.intro ?_ ?_))) rfl
    refine And.intro ?_ ⟨_, _, ⟨rfl, rfl⟩, ?_⟩
    · simp [AllP, under, gB, wB, inR_iff, IntKind.bits]
    rw [e0]
    exact ent_tau [0, 1, 2, 3, 4] ⟨by (repeat' (first | exact trivial | exact rfl | exact fun _ _ => rfl | exact Or.inl rfl | refine And.intro ?_ ?_)), by (repeat' (first | exact trivial | exact rfl | exact congrArg (SV.int .i64) (Int.natCast_succ _).symm | refine And.intro ?_ ?_)), rfl⟩
end Go.Proofs.YtipbempkngfdbaaGreatDoor
