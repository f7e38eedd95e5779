/-
  Parts: G2, G4, G5.
-/
import Derived.Test.YtipbempkngfdbaaGreatDoorK23
import Derived.Test.YtipbempkngfdbaaGreatDoorK24
set_option linter.unusedVariables false
/-
  Contract: dipworksref01.lists.
-/
namespace Go.Proofs.YtipbempkngfdbaaGreatDoor
open Go Go.Sy
set_option linter.unusedSimpArgs false
set_option maxRecDepth 100000
set_option maxHeartbeats 4000000
attribute [local irreducible] CallP CodeP Ent YieldP

def rowI' (g : Nat → Int) (k : Nat) : List SV := [.int .i64 (g k)]
def rowsC (j N : Nat) (cp : Nat → Nat) (k : Nat) : List SV := [.row j k N (cp k)]
def poolL (own : Bool) (N : Nat) (L : List (Nat → Int)) : SObj := .pool own L.length (fun _ => N) fun k => L.getD k fun _ => 0
theorem catG_le {α : Type} (f : Int → List α) (lo : Int) {a : Nat} : ∀ {b : Nat}, a ≤ b → (catG f lo a).length ≤ (catG f lo b).length
  | 0, h => by rw [Nat.le_zero.1 h]; exact Nat.le_refl _
  | b + 1, h => by
    rcases Nat.eq_or_lt_of_le h with rfl | h
    · exact Nat.le_refl _
    · have := catG_le f lo (a := a) (b := b) (by omega)
      rw [catG, List.length_append]
      omega
/-- What lists hands back: all lists that were there, and these. -/
def K110 (N : Nat) (lo hi : Nat → Int) (L : List (Nat → Int)) : CE → SHeap → Prop := fun ce h' =>
  ∃ (cO : Nat) (cp : Nat → Nat), (L.length ≤ cO ∧ cO ≤ 9223372036854775807) ∧ ce = .ret (.slice 4 1 0 L.length cO) ∧ h' = [some (.roa 2 N (row2 lo hi)), some .dead, some .dead, some .dead, some (.arr 1 L.length cO (rowsC 5 N cp)), some (poolL true N L)]
noncomputable def H110 (N : Nat) (lo hi : Nat → Int) (d cb : Nat) (g : Nat → Int) (cO : Nat) (cp : Nat → Nat) (L : List (Nat → Int)) : SHeap := [some (.roa 2 N (row2 lo hi)), some (.arr 1 d cb (rowI' g)), some (.arr 1 L.length cO (rowsC 3 N cp)), some (poolL true N L)]
theorem unL {p : Prop} (h : p) : under none p := h
theorem sel_upd {σ : Nat → Nat} {g : Nat → Int} {d k : Nat} {n : Int} (hk : k < 0 + d + 1) {a b : Nat → List SV} (hb : b 0 = [.int .i64 n]) :
    selL (decide (k < 0 + d)) (selL (decide (k < 0)) (a k) (rowI' g (0 + (k - 0)))) (b (0 + (k - (0 + d)))) = renL σ (rowI' (upd g d n) k) := by
  rw [decide_eq_false (Nat.not_lt_zero k), selL_false]
  rcases Nat.lt_or_ge k d with h | h
  · rw [decide_eq_true (show k < 0 + d by omega), selL_true]
    simp only [rowI', upd, if_neg (show ¬ k = d by omega), Nat.zero_add, Nat.sub_zero]
    rfl
  · obtain rfl : k = d := by omega
    rw [decide_eq_false (show ¬ k < 0 + k by omega), selL_false, show 0 + (k - (0 + k)) = 0 by omega, hb]
    simp only [rowI', upd, if_true]
    rfl
theorem one1L {get : Nat → List SV} (h : allOne (get 0) = true) : allOneN get 0 1 := fun k hk => by
  have h0 : k = 0 := by omega
  subst h0
  exact h
theorem sel_push {σ : Nat → Nat} {n k : Nat} (hk : k < n + 1) {a a' b : Nat → List SV} {c : List SV} (h1 : ∀ k, k < n → a k = renL σ (a' k)) (h2 : b 0 = renL σ c) : selL (decide (k < n)) (a k) (b (0 + (k - n))) = renL σ (if k < n then a' k else c) := by
  rcases Nat.lt_succ_iff_lt_or_eq.1 hk with h | rfl
  · rw [decide_eq_true h, selL_true, if_pos h, h1 k h]
  · rw [decide_eq_false (Nat.lt_irrefl _), selL_false, if_neg (Nat.lt_irrefl _), Nat.sub_self, h2]
theorem push110 {N : Nat} {lo hi : Nat → Int} {cb : Nat} {g : Nat → Int} {M cO c : Nat} {cp : Nat → Nat} {L : List (Nat → Int)} (hM : M = L.length) {go : Nat → List SV} (h1 : ∀ k, k < M → go k = rowsC 3 N cp k) (h2 : go M = [.slice 1 1 0 N cb]) {n : Nat} {T : Tm} {D : List SV} :
    Ent n ⟨T, [some (.roa 2 N (row2 lo hi)), some (.arr 1 N cb (rowI' g)), some .dead, some (poolL true N L), some (.arr 1 (M + 1) c go)], D⟩
      ⟨T, [some (.roa 2 N (row2 lo hi)), some .dead, some .dead, some .dead, some (.arr 1 (M + 1) c (rowsC 5 N fun k => if k < M then cp k else cb)), some (poolL true N (L ++ [g]))], D⟩ := by
  subst hM
  have e : (L ++ [g]).length = L.length + 1 := by simp
  have old : ∀ k, k < L.length → (L ++ [g]).getD k (fun _ => 0) = L.getD k fun _ => 0 := fun k hk => by
    rw [List.getD_eq_getElem?_getD, List.getElem?_append_left hk, List.getD_eq_getElem?_getD]
  have new : (L ++ [g]).getD L.length (fun _ => 0) = g := by
    rw [List.getD_eq_getElem?_getD, List.getElem?_append_right (Nat.le_refl _)]
    simp
  have := entPush (n := n) (T := T) (D := D) (H := [some (.roa 2 N (row2 lo hi)), some (.arr 1 N cb (rowI' g)), some .dead, some (poolL true N L), some (.arr 1 (L.length + 1) c go)]) (i := 1) (j := 3) (o := 4) (np := L.length) (m := N) (cap := cb)
    (go' := rowsC 5 N fun k => if k < L.length then cp k else cb) (len' := fun _ => N) (get' := fun k => (L ++ [g]).getD k fun _ => 0) rfl rfl rfl (by decide)
    (fun q _ => by rw [new]; rfl) (fun k _ => rfl) (Nat.le_refl _) (fun k hk q _ => by rw [old k hk])
    (fun η hp k hk => by
      rcases Nat.lt_succ_iff_lt_or_eq.1 hk with h | rfl
      · rw [h1 k h]
        simp only [rowsC, if_pos h, denL]
        rw [hp.old h]
        rfl
      · rw [h2]
        simp only [rowsC, if_neg (Nat.lt_irrefl _), denL]
        rw [hp.new]
        rfl)
  have e2 : poolL true N (L ++ [g]) = .pool true (L.length + 1) (fun _ => N) fun k => (L ++ [g]).getD k fun _ => 0 := by rw [poolL, e]
  rw [e2]
  exact this
theorem t110a {N cN : Nat} {bl : Bool} {lo hi : Nat → Int} (hN : N ≤ 4) (hlh : ∀ i, i < N → 0 ≤ lo i ∧ lo i ≤ hi i ∧ hi i ≤ 60) : ∀ (r d : Nat), d + r = N → 1 ≤ d → ∀ (cb : Nat) (g : Nat → Int) (L : List (Nat → Int)) (cO : Nat) (cp : Nat → Nat),
    (d ≤ cb ∧ cb ≤ 9223372036854775807) → (L.length ≤ cO ∧ cO ≤ 9223372036854775807) → (L ++ lsts lo hi N r g).length ≤ 100000 →
    CallP Tryz.prog 102 [.osl bl 0 2 N cN, .slice 1 1 0 d cb, .slice 2 1 0 L.length cO] (H110 N lo hi d cb g cO cp L) (K110 N lo hi (L ++ lsts lo hi N r g)) := by
  intro r
  induction r with
  | zero =>
    intro d hd hd1 cb g L cO cp hcb hcO hlen
    obtain rfl : d = N := by omega
    have hlen' : L.length + 1 ≤ 100000 := by simpa [lsts] using hlen
    refine callK (E := E) E_ok Tryz.func102 rfl ?_
    refine And.intro ?_ (And.intro (fun hc => ?_) (fun hc => ?_))
    · (repeat' (first | exact trivial | exact fun _ => rfl | exact rfl | refine And.intro ?_ ?_))
    · (repeat' (first | exact trivial | exact fun _ => rfl | exact rfl | refine And.intro ?_ ?_))
      all_goals first | exact Nat.le_refl _ | exact hcO.2 | exact one1L rfl | (show _ * 24 ≤ 140737488355328; omega) | skip
      intro c hc1 hc2
      (repeat' (first | exact trivial | exact fun _ => rfl | exact rfl | refine And.intro ?_ ?_))
      refine ⟨.ret (.slice 4 1 0 (L.length + 1) c), [some (.roa 2 d (row2 lo hi)), some .dead, some .dead, some .dead, some (.arr 1 (L.length + 1) c (rowsC 5 d fun k => if k < L.length then cp k else cb)), some (poolL true d (L ++ [g]))], ⟨c, fun k => if k < L.length then cp k else cb, ?_, ?_, ?_⟩, ?_⟩
      · rw [lsts, List.length_append, List.length_singleton]
        exact ⟨hc1, hc2⟩
      · rw [lsts, List.length_append, List.length_singleton]
      · rw [lsts, List.length_append, List.length_singleton]
      refine Ent.trans ?_ (push110 (M := L.length) (cO := cO) (go := fun k => if k < L.length then rowsC 3 d cp k else [.slice 1 1 0 d cb]) rfl (fun k hk => if_pos hk) (if_neg (Nat.lt_irrefl _)))
      refine ent_tau [0, 1, 2, 3, 5] ⟨?_, ?_, rfl⟩
      · (repeat' (first | exact trivial | exact rfl | exact fun _ _ => rfl | exact fun _ _ _ _ => rfl | exact Or.inl rfl | exact Or.inr rfl | refine And.intro ?_ ?_))
        exact fun k hk => sel_push hk (fun _ _ => rfl) rfl
      · (repeat' (first | exact trivial | exact rfl | exact congrArg (SV.int .i64) (Int.natCast_succ _).symm | refine And.intro ?_ ?_))
    · exact absurd rfl (of_decide_eq_false hc)
  | succ r ih =>
    intro d hd hd1 cb g L cO cp hcb hcO hlen
    have hdN : d < N := by omega
    have hl := hlh d hdN
    have e2 : 0 + (d : Int).toNat = d := by omega
    obtain ⟨cnt, ecnt⟩ : ∃ q, (hi d - lo d + 1).toNat = q := ⟨_, rfl⟩
    have eL : lsts lo hi N (r + 1) g = catG (fun v => lsts lo hi N r (upd g d v)) (lo d) cnt := by
      have : N - (r + 1) = d := by omega
      rw [lsts, this, ecnt]
    rw [eL] at hlen ⊢
    refine callK (E := E) E_ok Tryz.func102 rfl ?_
    refine And.intro ?_ (And.intro (fun hc => ?_) (fun hc => ?_))
    · (repeat' (first | exact trivial | exact fun _ => rfl | exact rfl | refine And.intro ?_ ?_))
    · exact absurd (of_decide_eq_true hc) (by omega)
    refine And.intro ?_ ?_
    · (repeat' (first | exact trivial | exact fun _ => rfl | exact rfl | refine And.intro ?_ ?_))
      all_goals first | omega | exact unL (by omega)
    rw [e2]
    refine loopP E_ok [0, 1, 7] (fun q : Nat × List (Nat → Int) × Nat × (Nat → Nat) => [(2, match q.1 with | 0 => .slice 2 1 0 L.length cO | _ + 1 => .slice 5 1 0 q.2.1.length q.2.2.1), (8, .int .i64 (lo d + (q.1 : Nat)))])
      (fun q _ => match q.1 with
        | 0 => [some (.roa 2 N (row2 lo hi)), some (.arr 1 d cb (rowI' g)), some (.arr 1 L.length cO (rowsC 3 N cp)), some (poolL true N L), some (.cells [.int .i64 (lo d), .int .i64 (hi d)])]
        | _ + 1 => [some (.roa 2 N (row2 lo hi)), some (.arr 1 d cb (rowI' g)), some .dead, some .dead, some (.cells [.int .i64 (lo d), .int .i64 (hi d)]), some (.arr 1 q.2.1.length q.2.2.1 (rowsC 6 N q.2.2.2)), some (poolL true N q.2.1)])
      (fun q => q.1 ≤ cnt ∧ q.2.1 = L ++ catG (fun v => lsts lo hi N r (upd g d v)) (lo d) q.1 ∧ q.2.1.length ≤ q.2.2.1 ∧ q.2.2.1 ≤ 9223372036854775807) (fun q => cnt - q.1)
      (0, L, cO, cp) ⟨Nat.zero_le _, by simp [catG], hcO.1, hcO.2⟩ ?_ ?_
    · refine ent_tau [0, 1, 2, 3, 4] ⟨?_, ?_, rfl⟩
      · (repeat' (first | exact trivial | exact rfl | exact fun _ _ => rfl | exact fun _ _ _ _ => rfl | exact Or.inl rfl | exact Or.inr rfl | refine And.intro ?_ ?_))
      · (repeat' (first | exact trivial | exact rfl | exact congrArg (SV.int .i64) (Int.natCast_succ _).symm | refine And.intro ?_ ?_))
        exact congrArg (SV.int .i64) (show lo d = lo d + ((0 : Nat) : Int) by omega)
    rintro ⟨c, M, cO', cp'⟩ ⟨hc1, hM, hb1, hb2⟩
    simp only at hc1 hM hb1 hb2
    have hf : (L ++ catG (fun v => lsts lo hi N r (upd g d v)) (lo d) c).length ≤ 100000 := by
      have := catG_le (fun v => lsts lo hi N r (upd g d v)) (lo d) hc1
      simp only [List.length_append] at hlen ⊢
      omega
    cases c with
    | zero =>
      refine And.intro ?_ (And.intro (fun hcc => ?_) (fun hcc => ?_))
      · (repeat' (first | exact trivial | exact fun _ => rfl | exact rfl | refine And.intro ?_ ?_))
        all_goals omega
      · have hcc' : 0 < cnt := by
          have := of_decide_eq_true hcc
          omega
        (repeat' (first | exact trivial | exact fun _ => rfl | exact rfl | refine And.intro ?_ ?_))
        all_goals first | exact Nat.le_refl _ | omega | exact (fun k _ => rfl) | (show _ * 8 ≤ 140737488355328; omega) | skip
        intro c1 hc1a hc1b
        (repeat' (first | exact trivial | exact fun _ => rfl | exact rfl | refine And.intro ?_ ?_))
        all_goals first | exact Nat.le_refl _ | omega | exact one1L rfl | (show (0 + d + 1) * 8 ≤ 140737488355328; omega) | skip
        intro c2 hc2a hc2b
        (repeat' (first | exact trivial | exact fun _ => rfl | exact rfl | refine And.intro ?_ ?_))
        refine CallP.frameH (ih (0 + d + 1) (by omega) (by omega) c2 (upd g d (lo d + (0 : Nat))) L cO cp ⟨hc2a, hc2b⟩ hcO (by
          have := catG_le (fun v => lsts lo hi N r (upd g d v)) (lo d) (show 1 ≤ cnt from hcc')
          simp only [List.length_append, catG, List.length_nil, Nat.zero_add] at hlen this ⊢
          omega)) [0, 8, 2, 3] ?_ rfl ?_
        · (repeat' (first | exact trivial | exact rfl | exact fun _ _ => rfl | exact fun _ _ _ _ => rfl | exact Or.inl rfl | exact Or.inr rfl | refine And.intro ?_ ?_))
          exact fun k hk => sel_upd hk rfl
        rintro ce h' ⟨cO3, cp3, hb3, rfl, rfl⟩
        refine ⟨rfl, ?_⟩
        refine And.intro ?_ ?_
        · (repeat' (first | exact trivial | exact fun _ => rfl | exact rfl | refine And.intro ?_ ?_))
          all_goals first | (show _ ≤ lo d + ((0 : Nat) : Int) + 1; omega) | (show lo d + ((0 : Nat) : Int) + 1 ≤ _; omega)
        refine ⟨(0 + 1, L ++ lsts lo hi N r (upd g d (lo d + (0 : Nat))), cO3, cp3), ⟨hcc', ?_, hb3.1, hb3.2⟩, ?_, ?_⟩
        · simp [catG]
        · show cnt - (0 + 1) < cnt - 0
          omega
        refine ent_tau [0, 1, 2, 3, 4, 9, 10] ⟨?_, ?_, rfl⟩
        · (repeat' (first | exact trivial | exact rfl | exact fun _ _ => rfl | exact fun _ _ _ _ => rfl | exact Or.inl rfl | exact Or.inr rfl | refine And.intro ?_ ?_))
        · (repeat' (first | exact trivial | exact rfl | exact congrArg (SV.int .i64) (Int.natCast_succ _).symm | refine And.intro ?_ ?_))
          exact congrArg (SV.int .i64) (show lo d + ((0 : Nat) : Int) + 1 = lo d + ((0 + 1 : Nat) : Int) by omega)
      · have := of_decide_eq_false hcc
        omega
    | succ c =>
      refine And.intro ?_ (And.intro (fun hcc => ?_) (fun hcc => ?_))
      · (repeat' (first | exact trivial | exact fun _ => rfl | exact rfl | refine And.intro ?_ ?_))
        all_goals omega
      · have hcc' : c + 1 < cnt := by
          have := of_decide_eq_true hcc
          omega
        have hM2 : M ++ lsts lo hi N r (upd g d (lo d + (c + 1 : Nat))) = L ++ catG (fun v => lsts lo hi N r (upd g d v)) (lo d) (c + 1 + 1) := by
          rw [hM, List.append_assoc]
          rfl
        (repeat' (first | exact trivial | exact fun _ => rfl | exact rfl | refine And.intro ?_ ?_))
        all_goals first | exact Nat.le_refl _ | omega | exact (fun k _ => rfl) | (show _ * 8 ≤ 140737488355328; omega) | skip
        intro c1 hc1a hc1b
        (repeat' (first | exact trivial | exact fun _ => rfl | exact rfl | refine And.intro ?_ ?_))
        all_goals first | exact Nat.le_refl _ | omega | exact one1L rfl | (show (0 + d + 1) * 8 ≤ 140737488355328; omega) | skip
        intro c2 hc2a hc2b
        (repeat' (first | exact trivial | exact fun _ => rfl | exact rfl | refine And.intro ?_ ?_))
        refine CallP.frameH (ih (0 + d + 1) (by omega) (by omega) c2 (upd g d (lo d + (c + 1 : Nat))) M cO' cp' ⟨hc2a, hc2b⟩ ⟨hb1, hb2⟩ (by
          rw [hM2]
          have := catG_le (fun v => lsts lo hi N r (upd g d v)) (lo d) (show c + 1 + 1 ≤ cnt from hcc')
          simp only [List.length_append] at hlen ⊢
          omega)) [0, 10, 5, 6] ?_ rfl ?_
        · (repeat' (first | exact trivial | exact rfl | exact fun _ _ => rfl | exact fun _ _ _ _ => rfl | exact Or.inl rfl | exact Or.inr rfl | refine And.intro ?_ ?_))
          exact fun k hk => sel_upd hk rfl
        rintro ce h' ⟨cO3, cp3, hb3, rfl, rfl⟩
        refine ⟨rfl, ?_⟩
        refine And.intro ?_ ?_
        · (repeat' (first | exact trivial | exact fun _ => rfl | exact rfl | refine And.intro ?_ ?_))
          all_goals first | (show _ ≤ lo d + ((c + 1 : Nat) : Int) + 1; omega) | (show lo d + ((c + 1 : Nat) : Int) + 1 ≤ _; omega)
        refine ⟨(c + 1 + 1, M ++ lsts lo hi N r (upd g d (lo d + (c + 1 : Nat))), cO3, cp3), ⟨hcc', hM2, hb3.1, hb3.2⟩, ?_, ?_⟩
        · show cnt - (c + 1 + 1) < cnt - (c + 1)
          omega
        refine ent_tau [0, 1, 2, 3, 4, 11, 12] ⟨?_, ?_, rfl⟩
        · (repeat' (first | exact trivial | exact rfl | exact fun _ _ => rfl | exact fun _ _ _ _ => rfl | exact Or.inl rfl | exact Or.inr rfl | refine And.intro ?_ ?_))
        · (repeat' (first | exact trivial | exact rfl | exact congrArg (SV.int .i64) (Int.natCast_succ _).symm | refine And.intro ?_ ?_))
          exact congrArg (SV.int .i64) (show lo d + ((c + 1 : Nat) : Int) + 1 = lo d + ((c + 1 + 1 : Nat) : Int) by omega)
      · have hcn : c + 1 = cnt := by
          have := of_decide_eq_false hcc
          omega
        subst hcn
        rw [← hM]
        (repeat' (first | exact trivial | exact fun _ => rfl | exact rfl | refine And.intro ?_ ?_))
        refine ⟨.ret (.slice 4 1 0 M.length cO'), [some (.roa 2 N (row2 lo hi)), some .dead, some .dead, some .dead, some (.arr 1 M.length cO' (rowsC 5 N cp')), some (poolL true N M)], ⟨cO', cp', ⟨hb1, hb2⟩, rfl, rfl⟩, ?_⟩
        refine ent_tau [0, 1, 2, 3, 5, 6] ⟨?_, ?_, rfl⟩
        · (repeat' (first | exact trivial | exact rfl | exact fun _ _ => rfl | exact fun _ _ _ _ => rfl | exact Or.inl rfl | exact Or.inr rfl | refine And.intro ?_ ?_))
        · (repeat' (first | exact trivial | exact rfl | exact congrArg (SV.int .i64) (Int.natCast_succ _).symm | refine And.intro ?_ ?_))
end Go.Proofs.YtipbempkngfdbaaGreatDoor
/-
  Contract: dipworksref01.lists, where there is no list yet.
-/
namespace Go.Proofs.YtipbempkngfdbaaGreatDoor
open Go Go.Sy
set_option linter.unusedSimpArgs false
set_option maxRecDepth 100000
set_option maxHeartbeats 4000000
attribute [local irreducible] CallP CodeP Ent YieldP

def K110b (N : Nat) (lo hi : Nat → Int) (L : List (Nat → Int)) : CE → SHeap → Prop := fun ce h' =>
  ∃ (cO : Nat) (cp : Nat → Nat), (L.length ≤ cO ∧ cO ≤ 9223372036854775807) ∧ ce = .ret (.slice 2 1 0 L.length cO) ∧ h' = [some (.roa 2 N (row2 lo hi)), some .dead, some (.arr 1 L.length cO (rowsC 3 N cp)), some (poolL true N L)]
def K110c (N : Nat) (lo hi : Nat → Int) (L : List (Nat → Int)) : CE → SHeap → Prop := fun ce h' =>
  ∃ (cO : Nat) (cp : Nat → Nat), (L.length ≤ cO ∧ cO ≤ 9223372036854775807) ∧ ce = .ret (.slice 1 1 0 L.length cO) ∧ h' = [some (.roa 2 N (row2 lo hi)), some (.arr 1 L.length cO (rowsC 2 N cp)), some (poolL true N L)]
theorem push110b {N : Nat} {lo hi : Nat → Int} {cb : Nat} {g : Nat → Int} {c : Nat} {go : Nat → List SV} (h2 : go 0 = [.slice 1 1 0 N cb]) :
    Ent 2 ⟨[some (none, .slice 2 1 0 1 c)], [some (.roa 2 N (row2 lo hi)), some (.arr 1 N cb (rowI' g)), some (.arr 1 1 c go)], []⟩
      ⟨[some (none, .slice 2 1 0 1 c)], [some (.roa 2 N (row2 lo hi)), some .dead, some (.arr 1 1 c (rowsC 3 N fun _ => cb)), some (poolL true N [g])], []⟩ := by
  refine Ent.trans (entPool (fun _ => N) fun _ _ => 0) ?_
  have := entPush (n := 2) (T := [some (none, .slice 2 1 0 1 c)]) (D := []) (H := [some (.roa 2 N (row2 lo hi)), some (.arr 1 N cb (rowI' g)), some (.arr 1 1 c go), some (.pool true 0 (fun _ => N) fun _ _ => 0)]) (i := 1) (j := 3) (o := 2) (np := 0) (m := N) (cap := cb)
    (go' := rowsC 4 N fun _ => cb) (len' := fun _ => N) (get' := fun k => [g].getD k fun _ => 0) rfl rfl rfl (by decide)
    (fun q _ => rfl) (fun k _ => rfl) (Nat.le_refl _) (fun k hk q _ => absurd hk (Nat.not_lt_zero k))
    (fun η hp k hk => by
      obtain rfl : k = 0 := by omega
      rw [h2]
      simp only [rowsC, denL]
      rw [hp.new]
      rfl)
  refine Ent.trans this ?_
  exact ent_tau [0, 1, 2, 4] ⟨by (repeat' (first | exact trivial | exact rfl | exact fun _ _ => rfl | exact fun _ _ _ _ => rfl | exact Or.inl rfl | exact Or.inr rfl | refine And.intro ?_ ?_)), by (repeat' (first | exact trivial | exact rfl | exact congrArg (SV.int .i64) (Int.natCast_succ _).symm | refine And.intro ?_ ?_)), rfl⟩
theorem t110b {N cN : Nat} {bl : Bool} {lo hi : Nat → Int} (hN : N ≤ 4) (hlh : ∀ i, i < N → 0 ≤ lo i ∧ lo i ≤ hi i ∧ hi i ≤ 60) : ∀ (r d : Nat), d + r = N → 1 ≤ d → ∀ (cb : Nat) (g : Nat → Int),
    (d ≤ cb ∧ cb ≤ 9223372036854775807) → (lsts lo hi N r g).length ≤ 100000 →
    CallP Tryz.prog 102 [.osl bl 0 2 N cN, .slice 1 1 0 d cb, .snil] [some (.roa 2 N (row2 lo hi)), some (.arr 1 d cb (rowI' g))] (K110b N lo hi (lsts lo hi N r g)) := by
  intro r
  induction r with
  | zero =>
    intro d hd hd1 cb g hcb hlen
    obtain rfl : d = N := by omega
    refine callK (E := E) E_ok Tryz.func102 rfl ?_
    refine And.intro ?_ (And.intro (fun hc => ?_) (fun hc => ?_))
    · (repeat' (first | exact trivial | exact fun _ => rfl | exact rfl | refine And.intro ?_ ?_))
    · (repeat' (first | exact trivial | exact fun _ => rfl | exact rfl | refine And.intro ?_ ?_))
      all_goals first | exact Nat.le_refl _ | decide | exact one1L rfl | (show 1 * 24 ≤ 140737488355328; omega) | skip
      intro c hc1 hc2
      (repeat' (first | exact trivial | exact fun _ => rfl | exact rfl | refine And.intro ?_ ?_))
      refine ⟨.ret (.slice 2 1 0 1 c), [some (.roa 2 d (row2 lo hi)), some .dead, some (.arr 1 1 c (rowsC 3 d fun _ => cb)), some (poolL true d [g])], ⟨c, fun _ => cb, ⟨hc1, hc2⟩, rfl, rfl⟩, ?_⟩
      refine Ent.trans ?_ (push110b (go := fun _ => [.slice 1 1 0 d cb]) rfl)
      refine ent_tau [0, 1, 3] ⟨?_, ?_, rfl⟩
      · (repeat' (first | exact trivial | exact rfl | exact fun _ _ => rfl | exact fun _ _ _ _ => rfl | exact Or.inl rfl | exact Or.inr rfl | refine And.intro ?_ ?_))
        exact fun k hk => by
          obtain rfl : k = 0 := Nat.lt_one_iff.1 hk
          rfl
      · (repeat' (first | exact trivial | exact rfl | exact congrArg (SV.int .i64) (Int.natCast_succ _).symm | refine And.intro ?_ ?_))
    · exact absurd rfl (of_decide_eq_false hc)
  | succ r ih =>
    intro d hd hd1 cb g hcb hlen
    have hdN : d < N := by omega
    have hl := hlh d hdN
    have e2 : 0 + (d : Int).toNat = d := by omega
    obtain ⟨cnt, ecnt⟩ : ∃ q, (hi d - lo d + 1).toNat = q := ⟨_, rfl⟩
    have eL : lsts lo hi N (r + 1) g = catG (fun v => lsts lo hi N r (upd g d v)) (lo d) cnt := by
      have : N - (r + 1) = d := by omega
      rw [lsts, this, ecnt]
    rw [eL] at hlen ⊢
    refine callK (E := E) E_ok Tryz.func102 rfl ?_
    refine And.intro ?_ (And.intro (fun hc => ?_) (fun hc => ?_))
    · (repeat' (first | exact trivial | exact fun _ => rfl | exact rfl | refine And.intro ?_ ?_))
    · exact absurd (of_decide_eq_true hc) (by omega)
    refine And.intro ?_ ?_
    · (repeat' (first | exact trivial | exact fun _ => rfl | exact rfl | refine And.intro ?_ ?_))
      all_goals first | omega | exact unL (by omega)
    rw [e2]
    refine loopP E_ok [0, 1, 7] (fun q : Nat × List (Nat → Int) × Nat × (Nat → Nat) => [(2, match q.1 with | 0 => .snil | _ + 1 => .slice 3 1 0 q.2.1.length q.2.2.1), (8, .int .i64 (lo d + (q.1 : Nat)))])
      (fun q _ => match q.1 with
        | 0 => [some (.roa 2 N (row2 lo hi)), some (.arr 1 d cb (rowI' g)), some (.cells [.int .i64 (lo d), .int .i64 (hi d)])]
        | _ + 1 => [some (.roa 2 N (row2 lo hi)), some (.arr 1 d cb (rowI' g)), some (.cells [.int .i64 (lo d), .int .i64 (hi d)]), some (.arr 1 q.2.1.length q.2.2.1 (rowsC 4 N q.2.2.2)), some (poolL true N q.2.1)])
      (fun q => q.1 ≤ cnt ∧ q.2.1 = catG (fun v => lsts lo hi N r (upd g d v)) (lo d) q.1 ∧ (0 < q.1 → q.2.1.length ≤ q.2.2.1 ∧ q.2.2.1 ≤ 9223372036854775807)) (fun q => cnt - q.1)
      (0, [], 0, fun _ => 0) ⟨Nat.zero_le _, rfl, fun h => absurd h (Nat.lt_irrefl 0)⟩ ?_ ?_
    · refine ent_tau [0, 1, 2] ⟨?_, ?_, rfl⟩
      · (repeat' (first | exact trivial | exact rfl | exact fun _ _ => rfl | exact fun _ _ _ _ => rfl | exact Or.inl rfl | exact Or.inr rfl | refine And.intro ?_ ?_))
      · (repeat' (first | exact trivial | exact rfl | exact congrArg (SV.int .i64) (Int.natCast_succ _).symm | refine And.intro ?_ ?_))
        exact congrArg (SV.int .i64) (show lo d = lo d + ((0 : Nat) : Int) by omega)
    rintro ⟨c, M, cO', cp'⟩ ⟨hc1, hM, hb⟩
    simp only at hc1 hM hb
    have hf : (catG (fun v => lsts lo hi N r (upd g d v)) (lo d) c).length ≤ 100000 := by
      have := catG_le (fun v => lsts lo hi N r (upd g d v)) (lo d) hc1
      omega
    cases c with
    | zero =>
      refine And.intro ?_ (And.intro (fun hcc => ?_) (fun hcc => ?_))
      · (repeat' (first | exact trivial | exact fun _ => rfl | exact rfl | refine And.intro ?_ ?_))
        all_goals first | omega | (show _ ≤ lo d + ((0 : Nat) : Int); omega)
      · have hcc' : 0 < cnt := by
          have := of_decide_eq_true hcc
          omega
        (repeat' (first | exact trivial | exact fun _ => rfl | exact rfl | refine And.intro ?_ ?_))
        all_goals first | exact Nat.le_refl _ | omega | exact (fun k _ => rfl) | (show _ * 8 ≤ 140737488355328; omega) | skip
        intro c1 hc1a hc1b
        (repeat' (first | exact trivial | exact fun _ => rfl | exact rfl | refine And.intro ?_ ?_))
        all_goals first | exact Nat.le_refl _ | omega | exact one1L rfl | (show (0 + d + 1) * 8 ≤ 140737488355328; omega) | skip
        intro c2 hc2a hc2b
        (repeat' (first | exact trivial | exact fun _ => rfl | exact rfl | refine And.intro ?_ ?_))
        refine CallP.frameH (ih (0 + d + 1) (by omega) (by omega) c2 (upd g d (lo d + (0 : Nat))) ⟨hc2a, hc2b⟩ (by
          have := catG_le (fun v => lsts lo hi N r (upd g d v)) (lo d) (show 1 ≤ cnt from hcc')
          simp only [catG, List.nil_append] at hlen this ⊢
          omega)) [0, 6] ?_ rfl ?_
        · (repeat' (first | exact trivial | exact rfl | exact fun _ _ => rfl | exact fun _ _ _ _ => rfl | exact Or.inl rfl | exact Or.inr rfl | refine And.intro ?_ ?_))
          exact fun k hk => sel_upd hk rfl
        rintro ce h' ⟨cO3, cp3, hb3, rfl, rfl⟩
        refine ⟨rfl, ?_⟩
        refine And.intro ?_ ?_
        · (repeat' (first | exact trivial | exact fun _ => rfl | exact rfl | refine And.intro ?_ ?_))
          all_goals first | (show _ ≤ lo d + ((0 : Nat) : Int) + 1; omega) | (show lo d + ((0 : Nat) : Int) + 1 ≤ _; omega)
        refine ⟨(0 + 1, lsts lo hi N r (upd g d (lo d + (0 : Nat))), cO3, cp3), ⟨hcc', rfl, fun _ => hb3⟩, ?_, ?_⟩
        · show cnt - (0 + 1) < cnt - 0
          omega
        refine ent_tau [0, 1, 2, 7, 8] ⟨?_, ?_, rfl⟩
        · (repeat' (first | exact trivial | exact rfl | exact fun _ _ => rfl | exact fun _ _ _ _ => rfl | exact Or.inl rfl | exact Or.inr rfl | refine And.intro ?_ ?_))
        · (repeat' (first | exact trivial | exact rfl | exact congrArg (SV.int .i64) (Int.natCast_succ _).symm | refine And.intro ?_ ?_))
          exact congrArg (SV.int .i64) (show lo d + ((0 : Nat) : Int) + 1 = lo d + ((0 + 1 : Nat) : Int) by omega)
      · have := of_decide_eq_false hcc
        omega
    | succ c =>
      obtain ⟨hb1, hb2⟩ := hb (Nat.succ_pos c)
      refine And.intro ?_ (And.intro (fun hcc => ?_) (fun hcc => ?_))
      · (repeat' (first | exact trivial | exact fun _ => rfl | exact rfl | refine And.intro ?_ ?_))
        all_goals omega
      · have hcc' : c + 1 < cnt := by
          have := of_decide_eq_true hcc
          omega
        have hM2 : M ++ lsts lo hi N r (upd g d (lo d + (c + 1 : Nat))) = catG (fun v => lsts lo hi N r (upd g d v)) (lo d) (c + 1 + 1) := by
          rw [hM]
          rfl
        (repeat' (first | exact trivial | exact fun _ => rfl | exact rfl | refine And.intro ?_ ?_))
        all_goals first | exact Nat.le_refl _ | omega | exact (fun k _ => rfl) | (show _ * 8 ≤ 140737488355328; omega) | skip
        intro c1 hc1a hc1b
        (repeat' (first | exact trivial | exact fun _ => rfl | exact rfl | refine And.intro ?_ ?_))
        all_goals first | exact Nat.le_refl _ | omega | exact one1L rfl | (show (0 + d + 1) * 8 ≤ 140737488355328; omega) | skip
        intro c2 hc2a hc2b
        (repeat' (first | exact trivial | exact fun _ => rfl | exact rfl | refine And.intro ?_ ?_))
        refine CallP.frameH (t110a hN hlh r (0 + d + 1) (by omega) (by omega) c2 (upd g d (lo d + (c + 1 : Nat))) M cO' cp' ⟨hc2a, hc2b⟩ ⟨hb1, hb2⟩ (by
          rw [hM2]
          have := catG_le (fun v => lsts lo hi N r (upd g d v)) (lo d) (show c + 1 + 1 ≤ cnt from hcc')
          omega)) [0, 8, 3, 4] ?_ rfl ?_
        · (repeat' (first | exact trivial | exact rfl | exact fun _ _ => rfl | exact fun _ _ _ _ => rfl | exact Or.inl rfl | exact Or.inr rfl | refine And.intro ?_ ?_))
          exact fun k hk => sel_upd hk rfl
        rintro ce h' ⟨cO3, cp3, hb3, rfl, rfl⟩
        refine ⟨rfl, ?_⟩
        refine And.intro ?_ ?_
        · (repeat' (first | exact trivial | exact fun _ => rfl | exact rfl | refine And.intro ?_ ?_))
          all_goals first | (show _ ≤ lo d + ((c + 1 : Nat) : Int) + 1; omega) | (show lo d + ((c + 1 : Nat) : Int) + 1 ≤ _; omega)
        refine ⟨(c + 1 + 1, M ++ lsts lo hi N r (upd g d (lo d + (c + 1 : Nat))), cO3, cp3), ⟨hcc', hM2, fun _ => hb3⟩, ?_, ?_⟩
        · show cnt - (c + 1 + 1) < cnt - (c + 1)
          omega
        refine ent_tau [0, 1, 2, 9, 10] ⟨?_, ?_, rfl⟩
        · (repeat' (first | exact trivial | exact rfl | exact fun _ _ => rfl | exact fun _ _ _ _ => rfl | exact Or.inl rfl | exact Or.inr rfl | refine And.intro ?_ ?_))
        · (repeat' (first | exact trivial | exact rfl | exact congrArg (SV.int .i64) (Int.natCast_succ _).symm | refine And.intro ?_ ?_))
          exact congrArg (SV.int .i64) (show lo d + ((c + 1 : Nat) : Int) + 1 = lo d + ((c + 1 + 1 : Nat) : Int) by omega)
      · have hcn : c + 1 = cnt := by
          have := of_decide_eq_false hcc
          omega
        subst hcn
        rw [← hM]
        (repeat' (first | exact trivial | exact fun _ => rfl | exact rfl | refine And.intro ?_ ?_))
        refine ⟨.ret (.slice 2 1 0 M.length cO'), [some (.roa 2 N (row2 lo hi)), some .dead, some (.arr 1 M.length cO' (rowsC 3 N cp')), some (poolL true N M)], ⟨cO', cp', ⟨hb1, hb2⟩, rfl, rfl⟩, ?_⟩
        refine ent_tau [0, 1, 3, 4] ⟨?_, ?_, rfl⟩
        · (repeat' (first | exact trivial | exact rfl | exact fun _ _ => rfl | exact fun _ _ _ _ => rfl | exact Or.inl rfl | exact Or.inr rfl | refine And.intro ?_ ?_))
        · (repeat' (first | exact trivial | exact rfl | exact congrArg (SV.int .i64) (Int.natCast_succ _).symm | refine And.intro ?_ ?_))
theorem sel_upd0 {σ : Nat → Nat} {g : Nat → Int} {k : Nat} {n : Int} (hk : k < 0 + 1) {a b : Nat → List SV} (hb : b 0 = [.int .i64 n]) :
    selL (decide (k < 0)) (a k) (b (0 + (k - 0))) = renL σ (rowI' (upd g 0 n) k) := by
  obtain rfl : k = 0 := by omega
  rw [decide_eq_false (Nat.lt_irrefl 0), selL_false, show 0 + (0 - 0) = 0 from rfl, hb]
  simp only [rowI', upd, if_true]
  rfl
theorem t110c {N cN : Nat} {bl : Bool} {lo hi : Nat → Int} (hN : N ≤ 4) (hlh : ∀ i, i < N → 0 ≤ lo i ∧ lo i ≤ hi i ∧ hi i ≤ 60) (hN1 : 1 ≤ N) (g : Nat → Int) (hlen : (lsts lo hi N N g).length ≤ 100000) :
    CallP Tryz.prog 102 [.osl bl 0 2 N cN, .snil, .snil] [some (.roa 2 N (row2 lo hi))] (K110c N lo hi (lsts lo hi N N g)) := by
  obtain ⟨r, hr⟩ : ∃ r, N = r + 1 := ⟨N - 1, by omega⟩
  have hl := hlh 0 hN1
  obtain ⟨cnt, ecnt⟩ : ∃ q, (hi 0 - lo 0 + 1).toNat = q := ⟨_, rfl⟩
  have eL : lsts lo hi N N g = catG (fun v => lsts lo hi N r (upd g 0 v)) (lo 0) cnt := by
    have e : lsts lo hi N N g = lsts lo hi N (r + 1) g := by rw [← hr]
    have : N - (r + 1) = 0 := by omega
    rw [e, lsts, this, ecnt]
  rw [eL] at hlen ⊢
  refine callK (E := E) E_ok Tryz.func102 rfl ?_
  refine And.intro ?_ (And.intro (fun hc => ?_) (fun hc => ?_))
  · (repeat' (first | exact trivial | exact fun _ => rfl | exact rfl | refine And.intro ?_ ?_))
  · exact absurd (of_decide_eq_true hc) (by omega)
  · refine And.intro ?_ ?_
    · (repeat' (first | exact trivial | exact fun _ => rfl | exact rfl | refine And.intro ?_ ?_))
      all_goals first | omega | exact unL (by omega)
    rw [show 0 + (0 : Int).toNat = 0 from rfl]
    refine loopP E_ok [0, 1, 7] (fun q : Nat × List (Nat → Int) × Nat × (Nat → Nat) => [(2, match q.1 with | 0 => .snil | _ + 1 => .slice 2 1 0 q.2.1.length q.2.2.1), (8, .int .i64 (lo 0 + (q.1 : Nat)))])
      (fun q _ => match q.1 with
        | 0 => [some (.roa 2 N (row2 lo hi)), some (.cells [.int .i64 (lo 0), .int .i64 (hi 0)])]
        | _ + 1 => [some (.roa 2 N (row2 lo hi)), some (.cells [.int .i64 (lo 0), .int .i64 (hi 0)]), some (.arr 1 q.2.1.length q.2.2.1 (rowsC 3 N q.2.2.2)), some (poolL true N q.2.1)])
      (fun q => q.1 ≤ cnt ∧ q.2.1 = catG (fun v => lsts lo hi N r (upd g 0 v)) (lo 0) q.1 ∧ (0 < q.1 → q.2.1.length ≤ q.2.2.1 ∧ q.2.2.1 ≤ 9223372036854775807)) (fun q => cnt - q.1)
      (0, [], 0, fun _ => 0) ⟨Nat.zero_le _, rfl, fun h => absurd h (Nat.lt_irrefl 0)⟩ ?_ ?_
    · refine ent_tau [0, 1] ⟨?_, ?_, rfl⟩
      · (repeat' (first | exact trivial | exact rfl | exact fun _ _ => rfl | exact fun _ _ _ _ => rfl | exact Or.inl rfl | exact Or.inr rfl | refine And.intro ?_ ?_))
      · (repeat' (first | exact trivial | exact rfl | exact congrArg (SV.int .i64) (Int.natCast_succ _).symm | refine And.intro ?_ ?_))
        exact congrArg (SV.int .i64) (show lo 0 = lo 0 + ((0 : Nat) : Int) by omega)
    rintro ⟨c, M, cO', cp'⟩ ⟨hc1, hM, hb⟩
    simp only at hc1 hM hb
    have hf : (catG (fun v => lsts lo hi N r (upd g 0 v)) (lo 0) c).length ≤ 100000 := by
      have := catG_le (fun v => lsts lo hi N r (upd g 0 v)) (lo 0) hc1
      omega
    cases c with
    | zero =>
      refine And.intro ?_ (And.intro (fun hcc => ?_) (fun hcc => ?_))
      · (repeat' (first | exact trivial | exact fun _ => rfl | exact rfl | refine And.intro ?_ ?_))
        all_goals first | omega | (show _ ≤ lo 0 + ((0 : Nat) : Int); omega)
      · have hcc' : 0 < cnt := by
          have := of_decide_eq_true hcc
          omega
        (repeat' (first | exact trivial | exact fun _ => rfl | exact rfl | refine And.intro ?_ ?_))
        all_goals first | exact Nat.le_refl _ | omega | exact (fun k _ => rfl) | skip
        intro c1 hc1a hc1b
        (repeat' (first | exact trivial | exact fun _ => rfl | exact rfl | refine And.intro ?_ ?_))
        all_goals first | exact Nat.le_refl _ | omega | exact one1L rfl | (show (0 + 1) * 8 ≤ 140737488355328; omega) | skip
        intro c2 hc2a hc2b
        (repeat' (first | exact trivial | exact fun _ => rfl | exact rfl | refine And.intro ?_ ?_))
        refine CallP.frameH (t110b hN hlh r (0 + 1) (by omega) (by omega) c2 (upd g 0 (lo 0 + (0 : Nat))) ⟨hc2a, hc2b⟩ (by
          have := catG_le (fun v => lsts lo hi N r (upd g 0 v)) (lo 0) (show 1 ≤ cnt from hcc')
          simp only [catG, List.nil_append] at hlen this ⊢
          omega)) [0, 5] ?_ rfl ?_
        · (repeat' (first | exact trivial | exact rfl | exact fun _ _ => rfl | exact fun _ _ _ _ => rfl | exact Or.inl rfl | exact Or.inr rfl | refine And.intro ?_ ?_))
          exact fun k hk => sel_upd0 hk rfl
        rintro ce h' ⟨cO3, cp3, hb3, rfl, rfl⟩
        refine ⟨rfl, ?_⟩
        refine And.intro ?_ ?_
        · (repeat' (first | exact trivial | exact fun _ => rfl | exact rfl | refine And.intro ?_ ?_))
          all_goals first | (show _ ≤ lo 0 + ((0 : Nat) : Int) + 1; omega) | (show lo 0 + ((0 : Nat) : Int) + 1 ≤ _; omega)
        refine ⟨(0 + 1, lsts lo hi N r (upd g 0 (lo 0 + (0 : Nat))), cO3, cp3), ⟨hcc', rfl, fun _ => hb3⟩, ?_, ?_⟩
        · show cnt - (0 + 1) < cnt - 0
          omega
        refine ent_tau [0, 1, 6, 7] ⟨?_, ?_, rfl⟩
        · (repeat' (first | exact trivial | exact rfl | exact fun _ _ => rfl | exact fun _ _ _ _ => rfl | exact Or.inl rfl | exact Or.inr rfl | refine And.intro ?_ ?_))
        · (repeat' (first | exact trivial | exact rfl | exact congrArg (SV.int .i64) (Int.natCast_succ _).symm | refine And.intro ?_ ?_))
          exact congrArg (SV.int .i64) (show lo 0 + ((0 : Nat) : Int) + 1 = lo 0 + ((0 + 1 : Nat) : Int) by omega)
      · have := of_decide_eq_false hcc
        omega
    | succ c =>
      obtain ⟨hb1, hb2⟩ := hb (Nat.succ_pos c)
      refine And.intro ?_ (And.intro (fun hcc => ?_) (fun hcc => ?_))
      · (repeat' (first | exact trivial | exact fun _ => rfl | exact rfl | refine And.intro ?_ ?_))
        all_goals omega
      · have hcc' : c + 1 < cnt := by
          have := of_decide_eq_true hcc
          omega
        have hM2 : M ++ lsts lo hi N r (upd g 0 (lo 0 + (c + 1 : Nat))) = catG (fun v => lsts lo hi N r (upd g 0 v)) (lo 0) (c + 1 + 1) := by
          rw [hM]
          rfl
        (repeat' (first | exact trivial | exact fun _ => rfl | exact rfl | refine And.intro ?_ ?_))
        all_goals first | exact Nat.le_refl _ | omega | exact (fun k _ => rfl) | skip
        intro c1 hc1a hc1b
        (repeat' (first | exact trivial | exact fun _ => rfl | exact rfl | refine And.intro ?_ ?_))
        all_goals first | exact Nat.le_refl _ | omega | exact one1L rfl | (show (0 + 1) * 8 ≤ 140737488355328; omega) | skip
        intro c2 hc2a hc2b
        (repeat' (first | exact trivial | exact fun _ => rfl | exact rfl | refine And.intro ?_ ?_))
        refine CallP.frameH (t110a hN hlh r (0 + 1) (by omega) (by omega) c2 (upd g 0 (lo 0 + (c + 1 : Nat))) M cO' cp' ⟨hc2a, hc2b⟩ ⟨hb1, hb2⟩ (by
          rw [hM2]
          have := catG_le (fun v => lsts lo hi N r (upd g 0 v)) (lo 0) (show c + 1 + 1 ≤ cnt from hcc')
          omega)) [0, 7, 2, 3] ?_ rfl ?_
        · (repeat' (first | exact trivial | exact rfl | exact fun _ _ => rfl | exact fun _ _ _ _ => rfl | exact Or.inl rfl | exact Or.inr rfl | refine And.intro ?_ ?_))
          exact fun k hk => sel_upd0 hk rfl
        rintro ce h' ⟨cO3, cp3, hb3, rfl, rfl⟩
        refine ⟨rfl, ?_⟩
        refine And.intro ?_ ?_
        · (repeat' (first | exact trivial | exact fun _ => rfl | exact rfl | refine And.intro ?_ ?_))
          all_goals first | (show _ ≤ lo 0 + ((c + 1 : Nat) : Int) + 1; omega) | (show lo 0 + ((c + 1 : Nat) : Int) + 1 ≤ _; omega)
        refine ⟨(c + 1 + 1, M ++ lsts lo hi N r (upd g 0 (lo 0 + (c + 1 : Nat))), cO3, cp3), ⟨hcc', hM2, fun _ => hb3⟩, ?_, ?_⟩
        · show cnt - (c + 1 + 1) < cnt - (c + 1)
          omega
        refine ent_tau [0, 1, 8, 9] ⟨?_, ?_, rfl⟩
        · (repeat' (first | exact trivial | exact rfl | exact fun _ _ => rfl | exact fun _ _ _ _ => rfl | exact Or.inl rfl | exact Or.inr rfl | refine And.intro ?_ ?_))
        · (repeat' (first | exact trivial | exact rfl | exact congrArg (SV.int .i64) (Int.natCast_succ _).symm | refine And.intro ?_ ?_))
          exact congrArg (SV.int .i64) (show lo 0 + ((c + 1 : Nat) : Int) + 1 = lo 0 + ((c + 1 + 1 : Nat) : Int) by omega)
      · have hcn : c + 1 = cnt := by
          have := of_decide_eq_false hcc
          omega
        subst hcn
        rw [← hM]
        (repeat' (first | exact trivial | exact fun _ => rfl | exact rfl | refine And.intro ?_ ?_))
        refine ⟨.ret (.slice 1 1 0 M.length cO'), [some (.roa 2 N (row2 lo hi)), some (.arr 1 M.length cO' (rowsC 2 N cp')), some (poolL true N M)], ⟨cO', cp', ⟨hb1, hb2⟩, rfl, rfl⟩, ?_⟩
        refine ent_tau [0, 2, 3] ⟨?_, ?_, rfl⟩
        · (repeat' (first | exact trivial | exact rfl | exact fun _ _ => rfl | exact fun _ _ _ _ => rfl | exact Or.inl rfl | exact Or.inr rfl | refine And.intro ?_ ?_))
        · (repeat' (first | exact trivial | exact rfl | exact congrArg (SV.int .i64) (Int.natCast_succ _).symm | refine And.intro ?_ ?_))
end Go.Proofs.YtipbempkngfdbaaGreatDoor
/-
  Truths as rows of pools: what the specification's list of truths looks like; right, of rows of pools.
-/
namespace Go.Proofs.YtipbempkngfdbaaGreatDoor
open Go Go.Sy
set_option linter.unusedSimpArgs false
set_option maxRecDepth 100000
set_option maxHeartbeats 4000000
attribute [local irreducible] CallP CodeP Ent YieldP

def hrow (L : List (Nat → Int)) (k : Nat) : Nat → Int := L.getD k fun _ => 0
theorem hrow_mem {L : List (Nat → Int)} {k : Nat} (h : k < L.length) : hrow L k ∈ L := by
  rw [hrow, List.getD_eq_getElem?_getD, List.getElem?_eq_getElem h]
  exact List.getElem_mem h
def rowsT (jA jB nM nS : Nat) (ia ib ca cb : Nat → Nat) (k : Nat) : List SV := [.row jA (ia k) nM (ca k), .row jB (ib k) nS (cb k)]
/-- Which rows make each truth. -/
structure Idx (t : TD) (X : List Tru) (ia ib : Nat → Nat) : Prop where
  a : ∀ k, k < X.length → ia k < t.hts.length ∧ hrow t.hts (ia k) = (X.getD k noTru).1
  b : ∀ k, k < X.length → ib k < t.sds.length ∧ hrow t.sds (ib k) = (X.getD k noTru).2
theorem catG_len {α : Type} {f : Int → List α} {lo : Int} {B : Nat} (h : ∀ v, (f v).length ≤ B) : ∀ c : Nat, (catG f lo c).length ≤ c * B
  | 0 => by simp [catG]
  | c + 1 => by
    have a := catG_len h (lo := lo) c
    have b := h (lo + c)
    rw [catG, List.length_append, Nat.succ_mul]
    omega
theorem lsts_len {lo hi : Nat → Int} {n : Nat} (h : ∀ i, i < n → hi i - lo i ≤ 2) : ∀ {r : Nat} (g : Nat → Int), r ≤ n → (lsts lo hi n r g).length ≤ 3 ^ r
  | 0, g, _ => by simp [lsts]
  | r + 1, g, hr => by
    have a := catG_len (f := fun v => lsts lo hi n r (upd g (n - (r + 1)) v)) (lo := lo (n - (r + 1))) (B := 3 ^ r) (fun v => lsts_len h _ (by omega)) (hi (n - (r + 1)) - lo (n - (r + 1)) + 1).toNat
    have b : (hi (n - (r + 1)) - lo (n - (r + 1)) + 1).toNat ≤ 3 := by
      have := h (n - (r + 1)) (by omega)
      omega
    have := Nat.mul_le_mul_right (3 ^ r) b
    rw [lsts, Nat.pow_succ]
    omega
theorem pow3_le {n : Nat} (h : n ≤ 4) : 3 ^ n ≤ 81 := Nat.pow_le_pow_right (n := 3) (by decide) h
theorem hts_len {t : TD} (hv : t.Valid) : t.hts.length ≤ 81 := by
  have := lsts_len (lo := t.mlo) (hi := t.mhi) (n := t.nM) (fun i hi => (hv.2.2.2.1 i hi).2.2.1) (r := t.nM) (fun _ => 0) (Nat.le_refl _)
  exact Nat.le_trans this (pow3_le hv.1.2)
theorem sds_len {t : TD} (hv : t.Valid) : t.sds.length ≤ 81 := by
  have := lsts_len (lo := t.slo) (hi := t.shi) (n := t.nS) (fun i hi => (hv.2.2.2.2.1 i hi).2) (r := t.nS) (fun _ => 0) (Nat.le_refl _)
  exact Nat.le_trans this (pow3_le hv.2.1.2)
/-- The truths of the first i heights, and of the next one with the first k sands. -/
def preT (t : TD) (so : Int) (i k : Nat) : List Tru :=
  ((t.hts.take i).flatMap fun h => (t.sds.filter (t.rightS so h)).map fun s => (h, s)) ++ ((t.sds.take k).filter (t.rightS so (hrow t.hts i))).map fun s => (hrow t.hts i, s)
theorem take_hrow {L : List (Nat → Int)} {k : Nat} (h : k < L.length) : L.take (k + 1) = L.take k ++ [hrow L k] := by
  rw [List.take_add_one, hrow, List.getD_eq_getElem?_getD, List.getElem?_eq_getElem h]
  rfl
theorem preT_zero (t : TD) (so : Int) : preT t so 0 0 = [] := by simp [preT]
theorem preT_t {t : TD} {so : Int} {i k : Nat} (hk : k < t.sds.length) (h : t.rightS so (hrow t.hts i) (hrow t.sds k) = true) : preT t so i (k + 1) = preT t so i k ++ [(hrow t.hts i, hrow t.sds k)] := by
  rw [preT, preT, take_hrow hk, List.filter_append, List.filter_cons_of_pos h, List.map_append, List.append_assoc]
  rfl
theorem preT_f {t : TD} {so : Int} {i k : Nat} (hk : k < t.sds.length) (h : t.rightS so (hrow t.hts i) (hrow t.sds k) = false) : preT t so i (k + 1) = preT t so i k := by
  rw [preT, preT, take_hrow hk, List.filter_append, List.filter_cons_of_neg (by rw [h]; decide), List.filter_nil, List.append_nil]
theorem preT_row {t : TD} {so : Int} {i : Nat} (hi : i < t.hts.length) : preT t so i t.sds.length = preT t so (i + 1) 0 := by
  rw [preT, preT, take_hrow hi, List.take_length, List.flatMap_append, List.take_zero, List.filter_nil, List.map_nil, List.append_nil]
  simp
theorem preT_all (t : TD) (so : Int) : preT t so t.hts.length 0 = t.truS so := by
  rw [preT, TD.truS, List.take_length, List.take_zero, List.filter_nil, List.map_nil, List.append_nil]
theorem Idx.none (t : TD) (ia ib : Nat → Nat) : Idx t [] ia ib := ⟨fun k h => absurd h (Nat.not_lt_zero k), fun k h => absurd h (Nat.not_lt_zero k)⟩
def ext (f : Nat → Nat) (n v : Nat) (k : Nat) : Nat := if k < n then f k else v
theorem Idx.push {t : TD} {X : List Tru} {ia ib : Nat → Nat} (h : Idx t X ia ib) {i k : Nat} (hi : i < t.hts.length) (hk : k < t.sds.length) : Idx t (X ++ [(hrow t.hts i, hrow t.sds k)]) (ext ia X.length i) (ext ib X.length k) := by
  have old : ∀ q, q < X.length → (X ++ [(hrow t.hts i, hrow t.sds k)]).getD q noTru = X.getD q noTru := fun q hq => by
    rw [List.getD_eq_getElem?_getD, List.getElem?_append_left hq, List.getD_eq_getElem?_getD]
  have new : (X ++ [(hrow t.hts i, hrow t.sds k)]).getD X.length noTru = (hrow t.hts i, hrow t.sds k) := by
    rw [List.getD_eq_getElem?_getD, List.getElem?_append_right (Nat.le_refl _)]
    simp
  constructor
  · intro q hq
    rw [List.length_append, List.length_singleton] at hq
    rcases Nat.lt_succ_iff_lt_or_eq.1 hq with h1 | rfl
    · rw [old q h1, ext, if_pos h1]
      exact h.a q h1
    · rw [new, ext, if_neg (Nat.lt_irrefl _)]
      exact ⟨hi, rfl⟩
  · intro q hq
    rw [List.length_append, List.length_singleton] at hq
    rcases Nat.lt_succ_iff_lt_or_eq.1 hq with h1 | rfl
    · rw [old q h1, ext, if_pos h1]
      exact h.b q h1
    · rw [new, ext, if_neg (Nat.lt_irrefl _)]
      exact ⟨hk, rfl⟩
theorem rowsT_push {jA jB nM nS n k : Nat} {ia ib ca cb : Nat → Nat} (x y u v : Nat) : rowsT jA jB nM nS (ext ia n x) (ext ib n y) (ext ca n u) (ext cb n v) k = if k < n then rowsT jA jB nM nS ia ib ca cb k else [.row jA x nM u, .row jB y nS v] := by
  unfold rowsT ext
  by_cases h : k < n
  · simp only [h, if_true]
  · simp only [h, if_false]
theorem sel_pushT {σ : Nat → Nat} {n k : Nat} (hk : k < n + 1) {jA jB nM nS : Nat} {ia ib ca cb : Nat → Nat} {x y u v : Nat} {a b : Nat → List SV} (h1 : ∀ k, k < n → a k = renL σ (rowsT jA jB nM nS ia ib ca cb k)) (h2 : b 0 = renL σ [.row jA x nM u, .row jB y nS v]) :
    selL (decide (k < n)) (a k) (b (0 + (k - n))) = renL σ (rowsT jA jB nM nS (ext ia n x) (ext ib n y) (ext ca n u) (ext cb n v) k) := by
  rw [rowsT_push]
  exact sel_push hk h1 h2
/-- The tide's rows, and both pools. -/
def HP (t : TD) : SHeap := t.H ++ [some (poolL false t.nM t.hts), some (poolL false t.nS t.sds)]
theorem hrow_h {t : TD} (hv : t.Valid) {i : Nat} (hi : i < t.hts.length) : okH (hrow t.hts i) := hts_ok hv (hrow_mem hi)
theorem hrow_s {t : TD} (hv : t.Valid) {k : Nat} (hk : k < t.sds.length) : ∀ p, p < t.nS → 0 ≤ hrow t.sds k p ∧ hrow t.sds k p ≤ 60 := fun p hp => by
  have a := (sds_mem.1 (hrow_mem hk)).1 p hp
  have b := (hv.2.2.2.2.1 p hp).1
  omega
theorem t111r (t : TD) (hv : t.Valid) {i k : Nat} (hi : i < t.hts.length) (hk : k < t.sds.length) (ca cb : Nat) (so : Int) (hso : 0 ≤ so ∧ so ≤ 64) :
    CallP Tryz.prog 103 [t.A, .agg [.row 3 i t.nM ca, .row 4 k t.nS cb], .int .i64 so] (HP t) (Ret (.bool (t.rightS so (hrow t.hts i) (hrow t.sds k))) (HP t)) := by
  have hM := hv.1
  have hS := hv.2.1
  refine CallP.entR (h1 := HP t ++ [some (.roa 1 t.nM fun m => [.int .i64 (hrow t.hts i m)])] ++ [some (.roa 1 t.nS fun m => [.int .i64 (hrow t.sds k m)])]) (v := .bool (t.rightS so (hrow t.hts i) (hrow t.sds k))) ?_ ?_
  · refine CallP.row (j := 3) (args' := [t.A, .agg [.osl true 5 1 t.nM ca, .row 4 k t.nS cb], .int .i64 so]) rfl i hi (show 0 < t.nM by omega) ?_ ?_
    · intro η b h1 h2
      have h1' : η 5 = some (b, 0) := h1
      simp only [denL, den, h1', Option.map_some]
      have := h2 t.nM ca
      simp only [den] at this
      rw [this]
    refine CallP.row (j := 4) (args' := [t.A, .agg [.osl true 5 1 t.nM ca, .osl true 6 1 t.nS cb], .int .i64 so]) rfl k hk (show 0 < t.nS by omega) ?_ ?_
    · intro η b h1 h2
      have h1' : η 6 = some (b, 0) := h1
      simp only [denL, den, h1', Option.map_some]
      have := h2 t.nS cb
      simp only [den] at this
      rw [this]
    refine (t111 t hv (hrow t.hts i) (hrow t.sds k) (hrow_h hv hi) (hrow_s hv hk) t.nM t.nS ca cb (Nat.le_refl _) (by omega) (Nat.le_refl _) so hso).use [0, 1, 2, 5, 6] ?_ (by (repeat' (first | exact trivial | exact rfl | exact fun _ _ => rfl | exact Or.inl rfl | refine And.intro ?_ ?_))) rfl
    exact ⟨rfl, rfl⟩
  · exact ent_tau [0, 1, 2, 3, 4] ⟨by (repeat' (first | exact trivial | exact rfl | exact fun _ _ => rfl | exact fun _ _ _ _ => rfl | exact Or.inl rfl | exact Or.inr rfl | refine And.intro ?_ ?_)), by (repeat' (first | exact trivial | exact rfl | exact congrArg (SV.int .i64) (Int.natCast_succ _).symm | refine And.intro ?_ ?_)), rfl⟩
end Go.Proofs.YtipbempkngfdbaaGreatDoor
