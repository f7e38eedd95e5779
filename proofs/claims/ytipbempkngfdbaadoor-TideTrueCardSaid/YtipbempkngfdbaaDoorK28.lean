/-
  Parts: F6, F12, F13, D4.
-/
import Derived.Test.YtipbempkngfdbaaDoorK27
import Derived.Test.YtipbempkngfdbaaDoorK25
import Derived.Test.YtipbempkngfdbaaDoorK19
set_option linter.unusedVariables false
/-
  Contract: made, its second part: sand.
-/
namespace Go.Proofs.YtipbempkngfdbaaDoor
open Go Go.Sy
set_option linter.unusedSimpArgs false
set_option maxRecDepth 100000
set_option maxHeartbeats 4000000
attribute [local irreducible] CallP CodeP Ent YieldP
set_option maxHeartbeats 16000000

def pl28_12s : Plan := .eager 0 <| .eager 2 <| .eager 3 <| .eager 7 <| .eager 8 <| .alt 1 (.alt 4 (.alt 5 (.alt 6 (.eager 11 <| .alt 9 (.alt 10 (.alt 12 (.eager 13 <| .done) .no) .no) .no) (.alt 9 (.alt 6 (.eager 11 <| .alt 10 (.alt 12 (.eager 13 <| .done) .no) .no) .no) .no)) (.alt 9 (.alt 5 (.alt 6 (.eager 11 <| .alt 10 (.alt 12 (.eager 13 <| .done) .no) .no) .no) .no) .no)) (.alt 9 (.alt 4 (.alt 5 (.alt 6 (.eager 11 <| .alt 10 (.alt 12 (.eager 13 <| .done) .no) .no) .no) .no) .no) .no)) (.alt 4 (.alt 1 (.alt 5 (.alt 6 (.eager 11 <| .alt 9 (.alt 10 (.alt 12 (.eager 13 <| .done) .no) .no) .no) (.alt 9 (.alt 6 (.eager 11 <| .alt 10 (.alt 12 (.eager 13 <| .done) .no) .no) .no) .no)) (.alt 9 (.alt 5 (.alt 6 (.eager 11 <| .alt 10 (.alt 12 (.eager 13 <| .done) .no) .no) .no) .no) .no)) (.alt 5 (.alt 1 (.alt 6 (.eager 11 <| .alt 9 (.alt 10 (.alt 12 (.eager 13 <| .done) .no) .no) .no) (.alt 9 (.alt 6 (.eager 11 <| .alt 10 (.alt 12 (.eager 13 <| .done) .no) .no) .no) .no)) (.alt 9 (.alt 1 (.alt 6 (.eager 11 <| .alt 10 (.alt 12 (.eager 13 <| .done) .no) .no) .no) .no) .no)) (.alt 9 (.alt 1 (.alt 5 (.alt 6 (.eager 11 <| .alt 10 (.alt 12 (.eager 13 <| .done) .no) .no) .no) .no) (.alt 5 (.alt 1 (.alt 6 (.eager 11 <| .alt 10 (.alt 12 (.eager 13 <| .done) .no) .no) .no) .no) .no)) .no))) (.alt 9 (.alt 1 (.alt 4 (.alt 5 (.alt 6 (.eager 11 <| .alt 10 (.alt 12 (.eager 13 <| .done) .no) .no) .no) .no) .no) (.alt 4 (.alt 1 (.alt 5 (.alt 6 (.eager 11 <| .alt 10 (.alt 12 (.eager 13 <| .done) .no) .no) .no) .no) (.alt 5 (.alt 1 (.alt 6 (.eager 11 <| .alt 10 (.alt 12 (.eager 13 <| .done) .no) .no) .no) .no) .no)) .no)) .no))

theorem row2_upd (a b : Nat → Int) (k i : Nat) (x y : Int) (hi : i < k + 1) : selL (decide (i < k)) (row2 a b i) (getOf 2 [.int .i64 x, .int .i64 y] (0 + (i - k))) = row2 (upd a k x) (upd b k y) i := by
  rcases Nat.lt_succ_iff_lt_or_eq.1 hi with h | rfl
  · rw [decide_eq_true h, selL_true]
    simp [row2, upd, Nat.ne_of_lt h]
  · rw [decide_eq_false (Nat.lt_irrefl _), selL_false, Nat.sub_self]
    simp [row2, upd]
    rfl
theorem rowI_upd (a : Nat → Int) (k i : Nat) (x : Int) (hi : i < k + 1) : selL (decide (i < k)) (rowI a i) (getOf 1 [.int .i64 x] (0 + (i - k))) = rowI (upd a k x) i := by
  rcases Nat.lt_succ_iff_lt_or_eq.1 hi with h | rfl
  · rw [decide_eq_true h, selL_true]
    simp [rowI, upd, Nat.ne_of_lt h]
  · rw [decide_eq_false (Nat.lt_irrefl _), selL_false, Nat.sub_self]
    simp [rowI, upd]
    rfl
/-- Marks, and how high they are. -/
structure MarksOk (t : TD) (h : Nat → Int) : Prop where
  nM : 2 ≤ t.nM ∧ t.nM ≤ 4
  mok : ∀ i, i < t.nM → t.markOk i
  mi : ∀ k, InR .i64 (t.mi k)
  mlo : ∀ k, InR .i64 (t.mlo k)
  mhi : ∀ k, InR .i64 (t.mhi k)
  hh : okH h
  hm : ∀ i, i < t.nM → t.mlo i ≤ h i ∧ h i ≤ t.mhi i
  hz : ∀ i, t.nM ≤ i → h i = 0
/-- The tide with marks alone, and so much sand. -/
def TD.ws (t : TD) (k : Nat) (slo shi : Nat → Int) (c : Nat) : TD := { t with nS := k, slo := slo, shi := shi, bM := true, bS := true, cS := c, nL := 0, lp := fun _ => 0, lm := fun _ => 0, llo := fun _ => 0, lhi := fun _ => 0, bL := false, cL := 0 }
structure Sands (k : Nat) (slo shi s : Nat → Int) : Prop where
  ok : ∀ i, i < k → ((0 ≤ slo i ∧ slo i ≤ s i) ∧ s i ≤ shi i ∧ shi i ≤ 60) ∧ shi i - slo i ≤ 2
  z : ∀ i, k ≤ i → s i = 0
  r1 : ∀ i, InR .i64 (slo i)
  r2 : ∀ i, InR .i64 (shi i)
theorem Sands.step {k : Nat} {slo shi s : Nat → Int} (S : Sands k slo shi s) {lo x hi : Int} (h : (0 ≤ lo ∧ lo ≤ x) ∧ x ≤ hi ∧ hi ≤ 60) (hw : hi - lo ≤ 2) : Sands (k + 1) (upd slo k lo) (upd shi k hi) (upd s k x) := by
  have r : ∀ (f : Nat → Int) (v : Int), (∀ q, InR .i64 (f q)) → 0 ≤ v ∧ v ≤ 60 → ∀ q, InR .i64 (upd f k v q) := fun f v hf hv q => by
    unfold upd
    split
    · exact (inR_iff _).2 ⟨by omega, by omega⟩
    · exact hf q
  refine ⟨fun i hi => ?_, fun i hi => ?_, r _ _ S.r1 ⟨by omega, by omega⟩, r _ _ S.r2 ⟨by omega, by omega⟩⟩
  · rcases Nat.lt_succ_iff_lt_or_eq.1 hi with hl | rfl
    · simp only [upd, if_neg (Nat.ne_of_lt hl)]
      exact S.ok i hl
    · simp only [upd, if_true]
      exact ⟨h, hw⟩
  · simp only [upd, if_neg (Nat.ne_of_gt hi)]
    exact S.z i (by omega)
theorem ws_made {t : TD} {h : Nat → Int} (M : MarksOk t h) {k : Nat} {slo shi s : Nat → Int} (S : Sands k slo shi s) (h1 : 1 ≤ k) (h2 : k ≤ 4) (c : Nat) : Made (t.ws k slo shi c) h s := by
  have z : ∀ q : Nat, InR .i64 ((fun _ : Nat => (0 : Int)) q) := fun _ => (inR_iff _).2 ⟨by show _ ≤ (0 : Int); decide, by show (0 : Int) ≤ _; decide⟩
  refine ⟨⟨M.nM, ⟨h1, h2⟩, Nat.zero_le _, M.mok, fun i hi => ?_, fun i hi => absurd hi (Nat.not_lt_zero i)⟩, ⟨M.mi, M.mlo, M.mhi, S.r1, S.r2, z, z, z, z⟩, M.hh, M.hm, M.hz, fun p hp => ?_, S.z, fun i hi => absurd hi (Nat.not_lt_zero i)⟩
  · have := S.ok i hi
    refine ⟨⟨this.1.1.1, ?_, this.1.2.2⟩, this.2⟩
    show slo i ≤ shi i
    omega
  · have := S.ok p hp
    exact ⟨⟨this.1.1.2, this.1.2.1⟩, by omega, by omega⟩
def HB2 (b : Bool) (n cap : Nat) (by' : Nat → Int) (c : Int) (t : TD) (h : Nat → Int) (ch : Nat) : SHeap := [some (.cells [.int .i64 c]), some (.roc [.osl b 2 1 n cap]), some (.roa 1 n fun k => [.int .u16 (by' k)]), some (.cells [.fn (.func 81) [] [.ptr 0 0, .ptr 1 0]]), some (.cells [.slice 5 3 0 t.nM t.cM, .snil, .snil]), some (.arr 3 t.nM t.cM (row3 t.mi t.mlo t.mhi)), some (.arr 1 t.nM ch (rowI h))]
def HB3 (b : Bool) (n cap : Nat) (by' : Nat → Int) (c : Int) (t : TD) (h : Nat → Int) (ch k cS cs : Nat) (slo shi s : Nat → Int) : SHeap := [some (.cells [.int .i64 c]), some (.roc [.osl b 2 1 n cap]), some (.roa 1 n fun k => [.int .u16 (by' k)]), some (.cells [.fn (.func 81) [] [.ptr 0 0, .ptr 1 0]]), some (.cells [.slice 5 3 0 t.nM t.cM, .slice 7 2 0 k cS, .snil]), some (.arr 3 t.nM t.cM (row3 t.mi t.mlo t.mhi)), some (.arr 1 t.nM ch (rowI h)), some (.arr 2 k cS (row2 slo shi)), some (.arr 1 k cs (rowI s))]
noncomputable def TB (t : TD) (ch : Nat) : Tm := mkT [] [(1, .ptr 3 0), (2, .ptr 4 0), (3, .slice 6 1 0 t.nM ch), (4, .snil), (5, .fn (.func 82) [] [.ptr 3 0])] 0 (List.replicate 123 none)
theorem seg28b (b : Bool) (n cap : Nat) (by' : Nat → Int) (hby : ∀ k, 0 ≤ by' k ∧ by' k ≤ 65535) (hn : n ≤ 9223372036854775807) (c : Int) (hc : 0 ≤ c ∧ c ≤ 400000) (t : TD) (h : Nat → Int) (M : MarksOk t h) (ch : Nat)
    (h1 : t.nM ≤ t.cM ∧ t.cM ≤ 9223372036854775807) (h3 : t.nM ≤ ch ∧ ch ≤ 9223372036854775807) :
    CodeP Tryd.prog none 3 (sufC Tryd.f28 4) ⟨TB t ch, HB2 b n cap by' c t h ch, []⟩ (KRetK E Tryd.f28 3 (KMade b n cap by')) := by
  refine codeP_XK E_ok 1 ?_
  refine And.intro ?_ ?_
  · (repeat' (first | exact trivial | exact fun _ => rfl | exact rfl | refine And.intro ?_ ?_))
  refine CallP.frameH (t81 b n cap by' hby hn c ⟨by omega, by omega⟩ 4 (by decide)) [0, 1, 2] (by (repeat' (first | exact trivial | exact rfl | exact fun _ _ => rfl | exact Or.inl rfl | refine And.intro ?_ ?_))) rfl ?_
  rintro ce h' ⟨v, hv0, hv1, rfl, rfl⟩
  refine ⟨rfl, ?_⟩
  refine And.intro ?_ ?_
  · (repeat' (first | exact trivial | exact fun _ => rfl | exact rfl | refine And.intro ?_ ?_))
    all_goals omega
  obtain ⟨N, eN⟩ : ∃ N : Nat, 1 + v = (N : Int) := ⟨(1 + v).toNat, by omega⟩
  refine cutP [] [(1, .ptr 3 0), (2, .ptr 4 0), (3, .slice 6 1 0 t.nM ch), (4, .snil), (5, .fn (.func 82) [] [.ptr 3 0]), (44, .int .i64 N), (45, .int .i64 0)] (fun _ => HB2 b n cap by' (c + 1) t h ch) ?_ ?_
  · refine ent_tau [0, 1, 2, 3, 4, 5, 6] ⟨by (repeat' (first | exact trivial | exact rfl | exact fun _ _ => rfl | exact Or.inl rfl | refine And.intro ?_ ?_)), ?_, rfl⟩
    (repeat' (first | exact trivial | exact rfl | exact congrArg (SV.int .i64) eN | refine And.intro ?_ ?_))
  refine loopP E_ok [1, 2, 3, 5, 44] (fun g : Nat × Int × (Nat → Int) × (Nat → Int) × (Nat → Int) × Nat × Nat => match g.1 with | 0 => [(4, .snil), (45, .int .i64 0)] | k + 1 => [(4, .slice 8 1 0 (k + 1) g.2.2.2.2.2.2), (45, .int .i64 (k + 1 : Nat))])
    (fun g _ => match g.1 with | 0 => HB2 b n cap by' g.2.1 t h ch | k + 1 => HB3 b n cap by' g.2.1 t h ch (k + 1) g.2.2.2.2.2.1 g.2.2.2.2.2.2 g.2.2.1 g.2.2.2.1 g.2.2.2.2.1)
    (fun g => g.1 ≤ N ∧ (0 ≤ g.2.1 ∧ g.2.1 ≤ 400001 + 10 * g.1) ∧ Sands g.1 g.2.2.1 g.2.2.2.1 g.2.2.2.2.1 ∧ (0 < g.1 → (g.1 ≤ g.2.2.2.2.2.1 ∧ g.2.2.2.2.2.1 ≤ 9223372036854775807) ∧ g.1 ≤ g.2.2.2.2.2.2 ∧ g.2.2.2.2.2.2 ≤ 9223372036854775807)) (fun g => N - g.1)
    (0, c + 1, fun _ => 0, fun _ => 0, fun _ => 0, 0, 0) ⟨Nat.zero_le _, ⟨by simp only; omega, by simp only; omega⟩, ?_, fun h => absurd h (Nat.lt_irrefl 0)⟩ ?_ ?_
  · have z : ∀ q : Nat, InR .i64 ((fun _ : Nat => (0 : Int)) q) := fun _ => (inR_iff _).2 ⟨by show _ ≤ (0 : Int); decide, by show (0 : Int) ≤ _; decide⟩
    exact ⟨fun i hi => absurd hi (Nat.not_lt_zero i), fun _ _ => rfl, z, z⟩
  · exact ent_tau [0, 1, 2, 3, 4, 5, 6] ⟨by (repeat' (first | exact trivial | exact rfl | exact fun _ _ => rfl | exact Or.inl rfl | refine And.intro ?_ ?_)), by (repeat' (first | exact trivial | exact rfl | exact congrArg (SV.int .i64) (Int.natCast_succ _).symm | refine And.intro ?_ ?_)), rfl⟩
  rintro ⟨k, c2, slo, shi, s, cS, cs⟩ ⟨hk, hc2, S, hcap⟩
  simp only at hk hc2 S hcap
  have m0 := M.nM
  cases k with
  | zero =>
    
    refine And.intro ?_ (And.intro (fun hcc => ?_) (fun hcc => ?_))
    · (repeat' (first | exact trivial | exact fun _ => rfl | exact rfl | refine And.intro ?_ ?_))
    · have hkN : (0) < N := by
        have := of_decide_eq_true hcc
        omega
      refine And.intro trivial ?_
      refine CallP.frameH (t81 b n cap by' hby hn c2 ⟨by omega, by omega⟩ 40 (by decide)) [0, 1, 2] (by (repeat' (first | exact trivial | exact rfl | exact fun _ _ => rfl | exact Or.inl rfl | refine And.intro ?_ ?_))) rfl ?_
      rintro ce h' ⟨x, hx0, hx1, rfl, rfl⟩
      refine ⟨rfl, ?_⟩
      refine And.intro trivial ?_
      have c82 := t82 b n cap by' hby hn (c2 + 1) ⟨by omega, by omega⟩ x ⟨by omega, by omega⟩
      refine drawP E_ok [3] pl28_12s (by kernel_rfl) ?_
      (repeat' (first | exact trivial | exact fun _ => rfl | exact rfl | refine And.intro ?_ ?_))
      all_goals refine CallP.frameH c82 [0, 1, 2, 3] (by (repeat' (first | exact trivial | exact rfl | exact fun _ _ => rfl | exact Or.inl rfl | refine And.intro ?_ ?_))) rfl ?_
      all_goals rintro ce h' ⟨lo, hi, ⟨hl0, hl1, hl2, hl3, hl4⟩, rfl, rfl⟩
      all_goals refine ⟨rfl, ?_⟩
      all_goals (repeat' (first | exact trivial | exact fun _ => rfl | exact rfl | refine And.intro ?_ ?_))
      all_goals first | (intro c5 h51 h52) | decide | omega | exact hcap'.1.1 | exact hcap'.1.2 | exact hcap'.2.1 | exact hcap'.2.2 | exact one1 rfl | (show _ * 16 ≤ 140737488355328; omega) | (show _ * 8 ≤ 140737488355328; omega)
      all_goals (repeat' (first | exact trivial | exact fun _ => rfl | exact rfl | refine And.intro ?_ ?_))
      all_goals first | (intro c6 h61 h62) | decide | omega | exact hcap'.1.1 | exact hcap'.1.2 | exact hcap'.2.1 | exact hcap'.2.2 | exact one1 rfl | (show _ * 16 ≤ 140737488355328; omega) | (show _ * 8 ≤ 140737488355328; omega)
      all_goals (repeat' (first | exact trivial | exact fun _ => rfl | exact rfl | refine And.intro ?_ ?_))
      all_goals first | omega | exact un (by omega) | skip
      all_goals refine ⟨(0 + 1, c2 + 1 + 2, upd slo (0) lo, upd shi (0) hi, upd s (0) x, c5, c6), ⟨hkN, ⟨by simp only; omega, by simp only; omega⟩, S.step ⟨⟨hl0, hl1⟩, hl2, hl3⟩ hl4, fun _ => ⟨⟨h51, h52⟩, h61, h62⟩⟩, by simp only; omega, ?_⟩
      · refine ent_tau [0, 1, 2, 3, 4, 5, 6, 8, 10] ⟨?_, ?_, rfl⟩
        all_goals (repeat' (first | exact trivial | exact rfl | exact fun _ _ => rfl | exact congrArg (SV.int .i64) (Int.natCast_succ _).symm | refine And.intro ?_ ?_))
        all_goals first | exact (fun i hi => by have h0 : i = 0 := Nat.lt_one_iff.1 hi; subst h0; simp [row2, upd]; rfl) | exact (fun i hi => by have h0 : i = 0 := Nat.lt_one_iff.1 hi; subst h0; simp [rowI, upd]; rfl)
      · refine ent_tau [0, 1, 2, 3, 4, 5, 6, 9, 10] ⟨?_, ?_, rfl⟩
        all_goals (repeat' (first | exact trivial | exact rfl | exact fun _ _ => rfl | exact congrArg (SV.int .i64) (Int.natCast_succ _).symm | refine And.intro ?_ ?_))
        all_goals first | exact (fun i hi => by have h0 : i = 0 := Nat.lt_one_iff.1 hi; subst h0; simp [row2, upd]; rfl) | exact (fun i hi => by have h0 : i = 0 := Nat.lt_one_iff.1 hi; subst h0; simp [rowI, upd]; rfl)
      · refine ent_tau [0, 1, 2, 3, 4, 5, 6, 9, 10] ⟨?_, ?_, rfl⟩
        all_goals (repeat' (first | exact trivial | exact rfl | exact fun _ _ => rfl | exact congrArg (SV.int .i64) (Int.natCast_succ _).symm | refine And.intro ?_ ?_))
        all_goals first | exact (fun i hi => by have h0 : i = 0 := Nat.lt_one_iff.1 hi; subst h0; simp [row2, upd]; rfl) | exact (fun i hi => by have h0 : i = 0 := Nat.lt_one_iff.1 hi; subst h0; simp [rowI, upd]; rfl)
      · refine ent_tau [0, 1, 2, 3, 4, 5, 6, 9, 10] ⟨?_, ?_, rfl⟩
        all_goals (repeat' (first | exact trivial | exact rfl | exact fun _ _ => rfl | exact congrArg (SV.int .i64) (Int.natCast_succ _).symm | refine And.intro ?_ ?_))
        all_goals first | exact (fun i hi => by have h0 : i = 0 := Nat.lt_one_iff.1 hi; subst h0; simp [row2, upd]; rfl) | exact (fun i hi => by have h0 : i = 0 := Nat.lt_one_iff.1 hi; subst h0; simp [rowI, upd]; rfl)
      · refine ent_tau [0, 1, 2, 3, 4, 5, 6, 8, 10] ⟨?_, ?_, rfl⟩
        all_goals (repeat' (first | exact trivial | exact rfl | exact fun _ _ => rfl | exact congrArg (SV.int .i64) (Int.natCast_succ _).symm | refine And.intro ?_ ?_))
        all_goals first | exact (fun i hi => by have h0 : i = 0 := Nat.lt_one_iff.1 hi; subst h0; simp [row2, upd]; rfl) | exact (fun i hi => by have h0 : i = 0 := Nat.lt_one_iff.1 hi; subst h0; simp [rowI, upd]; rfl)
      · refine ent_tau [0, 1, 2, 3, 4, 5, 6, 9, 10] ⟨?_, ?_, rfl⟩
        all_goals (repeat' (first | exact trivial | exact rfl | exact fun _ _ => rfl | exact congrArg (SV.int .i64) (Int.natCast_succ _).symm | refine And.intro ?_ ?_))
        all_goals first | exact (fun i hi => by have h0 : i = 0 := Nat.lt_one_iff.1 hi; subst h0; simp [row2, upd]; rfl) | exact (fun i hi => by have h0 : i = 0 := Nat.lt_one_iff.1 hi; subst h0; simp [rowI, upd]; rfl)
      · refine ent_tau [0, 1, 2, 3, 4, 5, 6, 9, 10] ⟨?_, ?_, rfl⟩
        all_goals (repeat' (first | exact trivial | exact rfl | exact fun _ _ => rfl | exact congrArg (SV.int .i64) (Int.natCast_succ _).symm | refine And.intro ?_ ?_))
        all_goals first | exact (fun i hi => by have h0 : i = 0 := Nat.lt_one_iff.1 hi; subst h0; simp [row2, upd]; rfl) | exact (fun i hi => by have h0 : i = 0 := Nat.lt_one_iff.1 hi; subst h0; simp [rowI, upd]; rfl)
      · refine ent_tau [0, 1, 2, 3, 4, 5, 6, 8, 10] ⟨?_, ?_, rfl⟩
        all_goals (repeat' (first | exact trivial | exact rfl | exact fun _ _ => rfl | exact congrArg (SV.int .i64) (Int.natCast_succ _).symm | refine And.intro ?_ ?_))
        all_goals first | exact (fun i hi => by have h0 : i = 0 := Nat.lt_one_iff.1 hi; subst h0; simp [row2, upd]; rfl) | exact (fun i hi => by have h0 : i = 0 := Nat.lt_one_iff.1 hi; subst h0; simp [rowI, upd]; rfl)
      · refine ent_tau [0, 1, 2, 3, 4, 5, 6, 9, 10] ⟨?_, ?_, rfl⟩
        all_goals (repeat' (first | exact trivial | exact rfl | exact fun _ _ => rfl | exact congrArg (SV.int .i64) (Int.natCast_succ _).symm | refine And.intro ?_ ?_))
        all_goals first | exact (fun i hi => by have h0 : i = 0 := Nat.lt_one_iff.1 hi; subst h0; simp [row2, upd]; rfl) | exact (fun i hi => by have h0 : i = 0 := Nat.lt_one_iff.1 hi; subst h0; simp [rowI, upd]; rfl)
      · refine ent_tau [0, 1, 2, 3, 4, 5, 6, 9, 10] ⟨?_, ?_, rfl⟩
        all_goals (repeat' (first | exact trivial | exact rfl | exact fun _ _ => rfl | exact congrArg (SV.int .i64) (Int.natCast_succ _).symm | refine And.intro ?_ ?_))
        all_goals first | exact (fun i hi => by have h0 : i = 0 := Nat.lt_one_iff.1 hi; subst h0; simp [row2, upd]; rfl) | exact (fun i hi => by have h0 : i = 0 := Nat.lt_one_iff.1 hi; subst h0; simp [rowI, upd]; rfl)
      · refine ent_tau [0, 1, 2, 3, 4, 5, 6, 9, 10] ⟨?_, ?_, rfl⟩
        all_goals (repeat' (first | exact trivial | exact rfl | exact fun _ _ => rfl | exact congrArg (SV.int .i64) (Int.natCast_succ _).symm | refine And.intro ?_ ?_))
        all_goals first | exact (fun i hi => by have h0 : i = 0 := Nat.lt_one_iff.1 hi; subst h0; simp [row2, upd]; rfl) | exact (fun i hi => by have h0 : i = 0 := Nat.lt_one_iff.1 hi; subst h0; simp [rowI, upd]; rfl)
      · refine ent_tau [0, 1, 2, 3, 4, 5, 6, 9, 10] ⟨?_, ?_, rfl⟩
        all_goals (repeat' (first | exact trivial | exact rfl | exact fun _ _ => rfl | exact congrArg (SV.int .i64) (Int.natCast_succ _).symm | refine And.intro ?_ ?_))
        all_goals first | exact (fun i hi => by have h0 : i = 0 := Nat.lt_one_iff.1 hi; subst h0; simp [row2, upd]; rfl) | exact (fun i hi => by have h0 : i = 0 := Nat.lt_one_iff.1 hi; subst h0; simp [rowI, upd]; rfl)
      · refine ent_tau [0, 1, 2, 3, 4, 5, 6, 9, 10] ⟨?_, ?_, rfl⟩
        all_goals (repeat' (first | exact trivial | exact rfl | exact fun _ _ => rfl | exact congrArg (SV.int .i64) (Int.natCast_succ _).symm | refine And.intro ?_ ?_))
        all_goals first | exact (fun i hi => by have h0 : i = 0 := Nat.lt_one_iff.1 hi; subst h0; simp [row2, upd]; rfl) | exact (fun i hi => by have h0 : i = 0 := Nat.lt_one_iff.1 hi; subst h0; simp [rowI, upd]; rfl)
      · refine ent_tau [0, 1, 2, 3, 4, 5, 6, 9, 10] ⟨?_, ?_, rfl⟩
        all_goals (repeat' (first | exact trivial | exact rfl | exact fun _ _ => rfl | exact congrArg (SV.int .i64) (Int.natCast_succ _).symm | refine And.intro ?_ ?_))
        all_goals first | exact (fun i hi => by have h0 : i = 0 := Nat.lt_one_iff.1 hi; subst h0; simp [row2, upd]; rfl) | exact (fun i hi => by have h0 : i = 0 := Nat.lt_one_iff.1 hi; subst h0; simp [rowI, upd]; rfl)
      · refine ent_tau [0, 1, 2, 3, 4, 5, 6, 9, 10] ⟨?_, ?_, rfl⟩
        all_goals (repeat' (first | exact trivial | exact rfl | exact fun _ _ => rfl | exact congrArg (SV.int .i64) (Int.natCast_succ _).symm | refine And.intro ?_ ?_))
        all_goals first | exact (fun i hi => by have h0 : i = 0 := Nat.lt_one_iff.1 hi; subst h0; simp [row2, upd]; rfl) | exact (fun i hi => by have h0 : i = 0 := Nat.lt_one_iff.1 hi; subst h0; simp [rowI, upd]; rfl)
    · have := of_decide_eq_false hcc
      omega

  | succ k =>
    have hcap' := hcap (Nat.succ_pos k)
    refine And.intro ?_ (And.intro (fun hcc => ?_) (fun hcc => ?_))
    · (repeat' (first | exact trivial | exact fun _ => rfl | exact rfl | refine And.intro ?_ ?_))
    · have hkN : (k + 1) < N := by
        have := of_decide_eq_true hcc
        omega
      refine And.intro trivial ?_
      refine CallP.frameH (t81 b n cap by' hby hn c2 ⟨by omega, by omega⟩ 40 (by decide)) [0, 1, 2] (by (repeat' (first | exact trivial | exact rfl | exact fun _ _ => rfl | exact Or.inl rfl | refine And.intro ?_ ?_))) rfl ?_
      rintro ce h' ⟨x, hx0, hx1, rfl, rfl⟩
      refine ⟨rfl, ?_⟩
      refine And.intro trivial ?_
      have c82 := t82 b n cap by' hby hn (c2 + 1) ⟨by omega, by omega⟩ x ⟨by omega, by omega⟩
      refine drawP E_ok [3] pl28_12s (by kernel_rfl) ?_
      (repeat' (first | exact trivial | exact fun _ => rfl | exact rfl | refine And.intro ?_ ?_))
      all_goals refine CallP.frameH c82 [0, 1, 2, 3] (by (repeat' (first | exact trivial | exact rfl | exact fun _ _ => rfl | exact Or.inl rfl | refine And.intro ?_ ?_))) rfl ?_
      all_goals rintro ce h' ⟨lo, hi, ⟨hl0, hl1, hl2, hl3, hl4⟩, rfl, rfl⟩
      all_goals refine ⟨rfl, ?_⟩
      all_goals (repeat' (first | exact trivial | exact fun _ => rfl | exact rfl | refine And.intro ?_ ?_))
      all_goals first | (intro c5 h51 h52) | decide | omega | exact hcap'.1.1 | exact hcap'.1.2 | exact hcap'.2.1 | exact hcap'.2.2 | exact one1 rfl | (show _ * 16 ≤ 140737488355328; omega) | (show _ * 8 ≤ 140737488355328; omega)
      all_goals (repeat' (first | exact trivial | exact fun _ => rfl | exact rfl | refine And.intro ?_ ?_))
      all_goals first | (intro c6 h61 h62) | decide | omega | exact hcap'.1.1 | exact hcap'.1.2 | exact hcap'.2.1 | exact hcap'.2.2 | exact one1 rfl | (show _ * 16 ≤ 140737488355328; omega) | (show _ * 8 ≤ 140737488355328; omega)
      all_goals (repeat' (first | exact trivial | exact fun _ => rfl | exact rfl | refine And.intro ?_ ?_))
      all_goals first | omega | exact un (by omega) | skip
      all_goals refine ⟨(k + 1 + 1, c2 + 1 + 2, upd slo (k + 1) lo, upd shi (k + 1) hi, upd s (k + 1) x, c5, c6), ⟨hkN, ⟨by simp only; omega, by simp only; omega⟩, S.step ⟨⟨hl0, hl1⟩, hl2, hl3⟩ hl4, fun _ => ⟨⟨h51, h52⟩, h61, h62⟩⟩, by simp only; omega, ?_⟩
      · refine ent_tau [0, 1, 2, 3, 4, 5, 6, 10, 12] ⟨?_, ?_, rfl⟩
        all_goals (repeat' (first | exact trivial | exact rfl | exact fun _ _ => rfl | exact congrArg (SV.int .i64) (Int.natCast_succ _).symm | refine And.intro ?_ ?_))
        all_goals first | exact (fun i hi => row2_upd _ _ _ _ _ _ hi) | exact (fun i hi => rowI_upd _ _ _ _ hi)
      · refine ent_tau [0, 1, 2, 3, 4, 5, 6, 11, 12] ⟨?_, ?_, rfl⟩
        all_goals (repeat' (first | exact trivial | exact rfl | exact fun _ _ => rfl | exact congrArg (SV.int .i64) (Int.natCast_succ _).symm | refine And.intro ?_ ?_))
        all_goals first | exact (fun i hi => row2_upd _ _ _ _ _ _ hi) | exact (fun i hi => rowI_upd _ _ _ _ hi)
      · refine ent_tau [0, 1, 2, 3, 4, 5, 6, 11, 12] ⟨?_, ?_, rfl⟩
        all_goals (repeat' (first | exact trivial | exact rfl | exact fun _ _ => rfl | exact congrArg (SV.int .i64) (Int.natCast_succ _).symm | refine And.intro ?_ ?_))
        all_goals first | exact (fun i hi => row2_upd _ _ _ _ _ _ hi) | exact (fun i hi => rowI_upd _ _ _ _ hi)
      · refine ent_tau [0, 1, 2, 3, 4, 5, 6, 11, 12] ⟨?_, ?_, rfl⟩
        all_goals (repeat' (first | exact trivial | exact rfl | exact fun _ _ => rfl | exact congrArg (SV.int .i64) (Int.natCast_succ _).symm | refine And.intro ?_ ?_))
        all_goals first | exact (fun i hi => row2_upd _ _ _ _ _ _ hi) | exact (fun i hi => rowI_upd _ _ _ _ hi)
      · refine ent_tau [0, 1, 2, 3, 4, 5, 6, 10, 12] ⟨?_, ?_, rfl⟩
        all_goals (repeat' (first | exact trivial | exact rfl | exact fun _ _ => rfl | exact congrArg (SV.int .i64) (Int.natCast_succ _).symm | refine And.intro ?_ ?_))
        all_goals first | exact (fun i hi => row2_upd _ _ _ _ _ _ hi) | exact (fun i hi => rowI_upd _ _ _ _ hi)
      · refine ent_tau [0, 1, 2, 3, 4, 5, 6, 11, 12] ⟨?_, ?_, rfl⟩
        all_goals (repeat' (first | exact trivial | exact rfl | exact fun _ _ => rfl | exact congrArg (SV.int .i64) (Int.natCast_succ _).symm | refine And.intro ?_ ?_))
        all_goals first | exact (fun i hi => row2_upd _ _ _ _ _ _ hi) | exact (fun i hi => rowI_upd _ _ _ _ hi)
      · refine ent_tau [0, 1, 2, 3, 4, 5, 6, 11, 12] ⟨?_, ?_, rfl⟩
        all_goals (repeat' (first | exact trivial | exact rfl | exact fun _ _ => rfl | exact congrArg (SV.int .i64) (Int.natCast_succ _).symm | refine And.intro ?_ ?_))
        all_goals first | exact (fun i hi => row2_upd _ _ _ _ _ _ hi) | exact (fun i hi => rowI_upd _ _ _ _ hi)
      · refine ent_tau [0, 1, 2, 3, 4, 5, 6, 10, 12] ⟨?_, ?_, rfl⟩
        all_goals (repeat' (first | exact trivial | exact rfl | exact fun _ _ => rfl | exact congrArg (SV.int .i64) (Int.natCast_succ _).symm | refine And.intro ?_ ?_))
        all_goals first | exact (fun i hi => row2_upd _ _ _ _ _ _ hi) | exact (fun i hi => rowI_upd _ _ _ _ hi)
      · refine ent_tau [0, 1, 2, 3, 4, 5, 6, 11, 12] ⟨?_, ?_, rfl⟩
        all_goals (repeat' (first | exact trivial | exact rfl | exact fun _ _ => rfl | exact congrArg (SV.int .i64) (Int.natCast_succ _).symm | refine And.intro ?_ ?_))
        all_goals first | exact (fun i hi => row2_upd _ _ _ _ _ _ hi) | exact (fun i hi => rowI_upd _ _ _ _ hi)
      · refine ent_tau [0, 1, 2, 3, 4, 5, 6, 11, 12] ⟨?_, ?_, rfl⟩
        all_goals (repeat' (first | exact trivial | exact rfl | exact fun _ _ => rfl | exact congrArg (SV.int .i64) (Int.natCast_succ _).symm | refine And.intro ?_ ?_))
        all_goals first | exact (fun i hi => row2_upd _ _ _ _ _ _ hi) | exact (fun i hi => rowI_upd _ _ _ _ hi)
      · refine ent_tau [0, 1, 2, 3, 4, 5, 6, 11, 12] ⟨?_, ?_, rfl⟩
        all_goals (repeat' (first | exact trivial | exact rfl | exact fun _ _ => rfl | exact congrArg (SV.int .i64) (Int.natCast_succ _).symm | refine And.intro ?_ ?_))
        all_goals first | exact (fun i hi => row2_upd _ _ _ _ _ _ hi) | exact (fun i hi => rowI_upd _ _ _ _ hi)
      · refine ent_tau [0, 1, 2, 3, 4, 5, 6, 11, 12] ⟨?_, ?_, rfl⟩
        all_goals (repeat' (first | exact trivial | exact rfl | exact fun _ _ => rfl | exact congrArg (SV.int .i64) (Int.natCast_succ _).symm | refine And.intro ?_ ?_))
        all_goals first | exact (fun i hi => row2_upd _ _ _ _ _ _ hi) | exact (fun i hi => rowI_upd _ _ _ _ hi)
      · refine ent_tau [0, 1, 2, 3, 4, 5, 6, 11, 12] ⟨?_, ?_, rfl⟩
        all_goals (repeat' (first | exact trivial | exact rfl | exact fun _ _ => rfl | exact congrArg (SV.int .i64) (Int.natCast_succ _).symm | refine And.intro ?_ ?_))
        all_goals first | exact (fun i hi => row2_upd _ _ _ _ _ _ hi) | exact (fun i hi => rowI_upd _ _ _ _ hi)
      · refine ent_tau [0, 1, 2, 3, 4, 5, 6, 11, 12] ⟨?_, ?_, rfl⟩
        all_goals (repeat' (first | exact trivial | exact rfl | exact fun _ _ => rfl | exact congrArg (SV.int .i64) (Int.natCast_succ _).symm | refine And.intro ?_ ?_))
        all_goals first | exact (fun i hi => row2_upd _ _ _ _ _ _ hi) | exact (fun i hi => rowI_upd _ _ _ _ hi)
      · refine ent_tau [0, 1, 2, 3, 4, 5, 6, 11, 12] ⟨?_, ?_, rfl⟩
        all_goals (repeat' (first | exact trivial | exact rfl | exact fun _ _ => rfl | exact congrArg (SV.int .i64) (Int.natCast_succ _).symm | refine And.intro ?_ ?_))
        all_goals first | exact (fun i hi => row2_upd _ _ _ _ _ _ hi) | exact (fun i hi => rowI_upd _ _ _ _ hi)
    · have hN : k + 1 = N := by
        have := of_decide_eq_false hcc
        omega
      (repeat' (first | exact trivial | exact fun _ => rfl | exact rfl | refine And.intro ?_ ?_))
      refine CodeP.part (seg28c b n cap by' hby hn c2 ⟨by omega, by omega⟩ (t.ws (k + 1) slo shi cS) h s (ws_made M S (by omega) (by omega) cS) rfl rfl rfl ch cs h1 hcap'.1 h3 hcap'.2) ?_
      exact ent_tau [0, 1, 2, 3, 4, 5, 6, 7, 8] ⟨by (repeat' (first | exact trivial | exact rfl | exact fun _ _ => rfl | exact Or.inl rfl | refine And.intro ?_ ?_)), by (repeat' (first | exact trivial | exact rfl | exact congrArg (SV.int .i64) (Int.natCast_succ _).symm | refine And.intro ?_ ?_)), rfl⟩
end Go.Proofs.YtipbempkngfdbaaDoor
/-
  TideTrue: the minutes, one behind the other.
-/
namespace Go.Proofs.YtipbempkngfdbaaDoor
open Go Go.Sy
set_option linter.unusedSimpArgs false
set_option maxRecDepth 100000
set_option maxHeartbeats 4000000
attribute [local irreducible] CallP CodeP Ent YieldP

/-- What is told of served minutes and first ones. -/
structure B6s (t : TD) (p : Nat) (l hg fv fe sv se : Int) (S : List (Int × Int)) : Prop where
  hp : p < t.nS
  F : (fe = 0 ∧ t.isMin fv ∧ okF t p l false fv = true ∧ ∀ x, t.mi 0 ≤ x → x < fv → okF t p l false x = false) ∨ (fe = 4 ∧ fv = 0 ∧ ∀ x, t.isMin x → okF t p l false x = false)
  U : (se = 0 ∧ t.isMin sv ∧ okF t p l true sv = true ∧ ∀ x, t.mi 0 ≤ x → x < sv → okF t p l true x = false) ∨ (se = 4 ∧ sv = 0 ∧ ∀ x, t.isMin x → okF t p l true x = false)
  S : Sps (goodM t p l hg) (t.mi 0) (t.mi (t.nM - 1) + 1) S
theorem b6m {by' : Nat → Int} {n : Nat} {t : TD} {h s : Nat → Int} {c l hg : Int} (B : B6 by' n t h s c l hg) {p : Nat} {fv fe sv se : Int} {S : List (Int × Int)} (D : B6s t p l hg fv fe sv se S) {K : Nat} {ms : Nat → Int} (hK : K ≤ 1000) (hm : ∀ k, k < K → t.isMin (ms k)) : B6m t h s p l hg fv fe sv se S K ms := by
  have mi := minutes B.M.v
  refine ⟨D.hp, by omega, hm, fun k hk => true_at B.M D.hp D.F D.U D.S (hm k hk), ?_⟩
  have := D.S.len (by omega)
  omega
noncomputable def T6d (t : TD) (ch cs : Nat) (l hg : Int) (p : Nat) (fv fe sv se : Int) (bS : Bool) (cS : Nat) (S : List (Int × Int)) (K cK : Nat) : Tm := mkT [] [(2, .bool false), (3, .fn (.func 81) [] [.ptr 3 0, .ptr 4 0]), (4, .ptr 10 0), (5, .osl true 8 1 t.nM ch), (6, .osl true 9 1 t.nS cs), (11, .int .i64 p), (12, .int .i64 l), (13, .int .i64 hg), (14, .int .i64 (t.mi 0)), (15, .int .i64 (t.mi (t.nM - 1))), (16, .osl bS 11 2 S.length cS), (18, .int .i64 fv), (19, .int .i64 fe), (20, .int .i64 sv), (21, .int .i64 se), (22, .slice 12 1 0 K cK)] 0 (List.replicate 367 none)
noncomputable def H6d (b : Bool) (n cap : Nat) (by' : Nat → Int) (c : Int) (t : TD) (h s : Nat → Int) (S : List (Int × Int)) (K cK : Nat) (ms : Nat → Int) : SHeap := H6t b n cap by' c t h s ++ [some (.roa 2 S.length (prow S)), some (.arr 1 K cK (rowI ms))]
theorem seg6d (b : Bool) (n cap : Nat) (by' : Nat → Int) (c : Int) (t : TD) (h s : Nat → Int) (ch cs : Nat) (l hg : Int) (B : B6 by' n t h s c l hg) (p : Nat) (fv fe sv se : Int) (bS : Bool) (cS : Nat) (S : List (Int × Int)) (D : B6s t p l hg fv fe sv se S) (K cK : Nat) (ms : Nat → Int) (hK : K ≤ 900) (hm : ∀ k, k < K → t.isMin (ms k)) (h1 : K ≤ cK) (h2 : cK ≤ 9223372036854775807) :
    CodeP Tryd.prog none 3 (sufC Tryd.f6 15) ⟨T6d t ch cs l hg p fv fe sv se bS cS S K cK, H6d b n cap by' c t h s S K cK ms, []⟩ (KRet E Tryd.f6 3 (.bool true) (H60 n by')) := by
  have mi := minutes B.M.v
  have sf := sure_first B.M D.hp D.F D.U
  refine codeP_XK E_ok 1 ?_
  refine And.intro ?_ (And.intro (fun hc => ?_) (fun hc => ?_))
  · (repeat' (first | exact trivial | exact fun _ => rfl | exact rfl | refine And.intro ?_ ?_))
  · have hse : se = 0 := of_decide_eq_true hc
    obtain ⟨f0, f1, f2⟩ := sf.2.2 hse
    have f21 := f2.1
    have f22 := f2.2
    refine And.intro ?_ (And.intro (fun hc2 => ?_) (fun hc2 => ?_))
    · (repeat' (first | exact True.intro | exact d1 _ | exact d1t _ | exact d2 _ | exact d3 _ _ | exact d3f _ _ | exact fun _ _ => rfl | exact fun _ => rfl | exact rfl | refine And.intro ?_ ?_))
    · exfalso
      simp [show ¬ sv < t.mi 0 by omega, show ¬ t.mi (t.nM - 1) < sv by omega] at hc2
    (repeat' (first | exact trivial | exact fun _ => rfl | exact rfl | refine And.intro ?_ ?_))
    all_goals first | (intro c5 h51 h52) | decide | omega | exact h1 | exact h2 | exact one1 rfl | (show _ * 8 ≤ 140737488355328; omega) | skip
    (repeat' (first | exact trivial | exact fun _ => rfl | exact rfl | refine And.intro ?_ ?_))
    all_goals first | decide | omega | exact un (by omega) | skip
    refine CodeP.part (seg6e b n cap by' c t h s ch cs l hg B p fv fe sv se bS cS S (K + 1) c5 (upd ms K sv) (b6m B D (by omega) fun i hi => ?_)) ?_
    · unfold upd
      split
      · exact f2
      · exact hm i (by omega)
    refine ent_tau [0, 1, 2, 3, 4, 5, 6, 7, 8, 9, 10, 11, 14] ⟨?_, ?_, rfl⟩
    all_goals (repeat' (first | exact trivial | exact rfl | exact fun _ _ => rfl | refine And.intro ?_ ?_))
    all_goals exact (fun i hi => rowI_upd _ _ _ _ hi)
  · (repeat' (first | exact trivial | exact fun _ => rfl | exact rfl | refine And.intro ?_ ?_))
    refine CodeP.part (seg6e b n cap by' c t h s ch cs l hg B p fv fe sv se bS cS S K cK ms (b6m B D (by omega) hm)) ?_
    exact ent_tau [0, 1, 2, 3, 4, 5, 6, 7, 8, 9, 10, 11, 12] ⟨by (repeat' (first | exact trivial | exact rfl | exact fun _ _ => rfl | exact Or.inl rfl | refine And.intro ?_ ?_)), by (repeat' (first | exact trivial | exact rfl | exact congrArg (SV.int .i64) (Int.natCast_succ _).symm | refine And.intro ?_ ?_)), rfl⟩
end Go.Proofs.YtipbempkngfdbaaDoor
/-
  TideTrue: the minutes that are looked at.
-/
namespace Go.Proofs.YtipbempkngfdbaaDoor
open Go Go.Sy
set_option linter.unusedSimpArgs false
set_option maxRecDepth 100000
set_option maxHeartbeats 4000000
attribute [local irreducible] CallP CodeP Ent YieldP
set_option maxHeartbeats 16000000

noncomputable def T6c (t : TD) (ch cs : Nat) (l hg : Int) (p : Nat) (fv fe sv se : Int) (bS : Bool) (cS : Nat) (S : List (Int × Int)) : Tm := mkT [] [(2, .bool false), (3, .fn (.func 81) [] [.ptr 3 0, .ptr 4 0]), (4, .ptr 10 0), (5, .osl true 8 1 t.nM ch), (6, .osl true 9 1 t.nS cs), (11, .int .i64 p), (12, .int .i64 l), (13, .int .i64 hg), (14, .int .i64 (t.mi 0)), (15, .int .i64 (t.mi (t.nM - 1))), (16, .osl bS 11 2 S.length cS), (18, .int .i64 fv), (19, .int .i64 fe), (20, .int .i64 sv), (21, .int .i64 se)] 0 (List.replicate 367 none)
noncomputable def H6c (b : Bool) (n cap : Nat) (by' : Nat → Int) (c : Int) (t : TD) (h s : Nat → Int) (S : List (Int × Int)) : SHeap := H6t b n cap by' c t h s ++ [some (.roa 2 S.length (prow S))]
theorem seg6c (b : Bool) (n cap : Nat) (by' : Nat → Int) (c : Int) (t : TD) (h s : Nat → Int) (ch cs : Nat) (l hg : Int) (B : B6 by' n t h s c l hg) (hc0 : c ≤ 650000) (p : Nat) (fv fe sv se : Int) (bS : Bool) (cS : Nat) (S : List (Int × Int)) (D : B6s t p l hg fv fe sv se S) :
    CodeP Tryd.prog none 3 (sufC Tryd.f6 13) ⟨T6c t ch cs l hg p fv fe sv se bS cS S, H6c b n cap by' c t h s S, []⟩ (KRet E Tryd.f6 3 (.bool true) (H60 n by')) := by
  obtain ⟨mi1, mi2, mi3⟩ := minutes B.M.v
  have hc := B.hc
  refine codeP_XK E_ok 2 ?_
  (repeat' (first | exact trivial | exact fun _ => rfl | exact rfl | refine And.intro ?_ ?_))
  refine loopP E_ok [2, 3, 4, 5, 6, 11, 12, 13, 14, 15, 16, 18, 19, 20, 21] (fun g : Nat × Int × Int × (Nat → Int) × Nat => match g.1 with | 0 => [(22, .snil), (23, .int .i64 g.2.1)] | k + 1 => [(22, .slice 12 1 0 (k + 1) g.2.2.2.2), (23, .int .i64 g.2.1)])
    (fun g _ => match g.1 with | 0 => H6c b n cap by' g.2.2.1 t h s S | k + 1 => H6d b n cap by' g.2.2.1 t h s S (k + 1) g.2.2.2.2 g.2.2.2.1)
    (fun g => ((g.1 : Int) ≤ g.2.1 - t.mi 0 ∧ t.mi 0 ≤ g.2.1 ∧ g.2.1 ≤ t.mi (t.nM - 1) + 12) ∧ (g.1 = 0 → g.2.1 = t.mi 0) ∧ (0 ≤ g.2.2.1 ∧ g.2.2.1 ≤ c + g.1) ∧ (∀ i, i < g.1 → t.isMin (g.2.2.2.1 i)) ∧ (0 < g.1 → g.1 ≤ g.2.2.2.2 ∧ g.2.2.2.2 ≤ 9223372036854775807)) (fun g => (t.mi (t.nM - 1) + 20 - g.2.1).toNat)
    (0, t.mi 0, c, fun _ => 0, 0) ⟨⟨by simp only; omega, Int.le_refl _, by simp only; omega⟩, fun _ => rfl, ⟨hc.1, by simp only; omega⟩, fun i hi => absurd hi (Nat.not_lt_zero i), fun h => absurd h (Nat.lt_irrefl 0)⟩ ?_ ?_
  · exact ent_tau [0, 1, 2, 3, 4, 5, 6, 7, 8, 9, 10, 11] ⟨by (repeat' (first | exact trivial | exact rfl | exact fun _ _ => rfl | exact Or.inl rfl | refine And.intro ?_ ?_)), by (repeat' (first | exact trivial | exact rfl | exact congrArg (SV.int .i64) (Int.natCast_succ _).symm | refine And.intro ?_ ?_)), rfl⟩
  rintro ⟨k, m, c2, ms, cK⟩ ⟨⟨hk1, hk2, hk3⟩, hk0, hc2, hms, hcK⟩
  simp only at hk1 hk2 hk3 hk0 hc2 hms hcK
  cases k with
  | zero =>
    have hm0 := hk0 rfl
    refine And.intro ?_ (And.intro (fun hcc => ?_) (fun hcc => ?_))
    · (repeat' (first | exact trivial | exact fun _ => rfl | exact rfl | refine And.intro ?_ ?_))
    · have hle : m ≤ t.mi (t.nM - 1) := of_decide_eq_true hcc
      have hm : t.isMin m := ⟨hk2, hle⟩
      (repeat' (first | exact trivial | exact fun _ => rfl | exact rfl | refine And.intro ?_ ?_))
      all_goals first | (intro c5 h51 h52) | decide | omega | exact hcK'.1 | exact hcK'.2 | exact one1 rfl | (show _ * 8 ≤ 140737488355328; omega) | skip
      (repeat' (first | exact trivial | exact fun _ => rfl | exact rfl | refine And.intro ?_ ?_))
      all_goals first | decide | omega | exact un (by omega) | skip
      refine CallP.frameH (t81 b n cap by' B.hby B.hn c2 ⟨by omega, by omega⟩ 12 (by decide)) [3, 4, 0] (by (repeat' (first | exact trivial | exact rfl | exact fun _ _ => rfl | exact Or.inl rfl | refine And.intro ?_ ?_))) rfl ?_
      rintro ce h' ⟨v, hv0, hv1, rfl, rfl⟩
      refine ⟨rfl, ?_⟩
      (repeat' (first | exact trivial | exact fun _ => rfl | exact rfl | refine And.intro ?_ ?_))
      all_goals first | omega | (simp only; omega) | exact un (by omega) | skip
      refine ⟨(0 + 1, m + (1 + v), c2 + 1, upd ms (0) m, c5), ⟨⟨by simp only; push_cast; omega, by simp only; omega, by simp only; omega⟩, fun h => absurd h (Nat.succ_ne_zero _), ⟨by simp only; omega, by simp only; push_cast; omega⟩, fun i hi => ?_, fun _ => ⟨h51, h52⟩⟩, by simp only; omega, ?_⟩
      · have hi2 : i < 0 + 1 := hi
        show t.isMin (upd ms (0) m i)
        unfold upd
        split
        · exact hm
        · exact hms i (by omega)
      refine ent_tau [0, 1, 2, 3, 4, 5, 6, 7, 8, 9, 10, 11, 13] ⟨?_, ?_, rfl⟩
      all_goals (repeat' (first | exact trivial | exact rfl | exact fun _ _ => rfl | exact congrArg (SV.int .i64) (Int.natCast_succ _).symm | refine And.intro ?_ ?_))
      all_goals exact (fun i hi => by have h0 : i = 0 := Nat.lt_one_iff.1 hi; subst h0; simp [rowI, upd]; rfl)
    · exfalso
      have := of_decide_eq_false hcc
      simp only at this
      omega
  | succ k =>
    have hcK' := hcK (Nat.succ_pos k)
    refine And.intro ?_ (And.intro (fun hcc => ?_) (fun hcc => ?_))
    · (repeat' (first | exact trivial | exact fun _ => rfl | exact rfl | refine And.intro ?_ ?_))
    · have hle : m ≤ t.mi (t.nM - 1) := of_decide_eq_true hcc
      have hm : t.isMin m := ⟨hk2, hle⟩
      (repeat' (first | exact trivial | exact fun _ => rfl | exact rfl | refine And.intro ?_ ?_))
      all_goals first | (intro c5 h51 h52) | decide | omega | exact hcK'.1 | exact hcK'.2 | exact one1 rfl | (show _ * 8 ≤ 140737488355328; omega) | skip
      (repeat' (first | exact trivial | exact fun _ => rfl | exact rfl | refine And.intro ?_ ?_))
      all_goals first | decide | omega | exact un (by omega) | skip
      refine CallP.frameH (t81 b n cap by' B.hby B.hn c2 ⟨by omega, by omega⟩ 12 (by decide)) [3, 4, 0] (by (repeat' (first | exact trivial | exact rfl | exact fun _ _ => rfl | exact Or.inl rfl | refine And.intro ?_ ?_))) rfl ?_
      rintro ce h' ⟨v, hv0, hv1, rfl, rfl⟩
      refine ⟨rfl, ?_⟩
      (repeat' (first | exact trivial | exact fun _ => rfl | exact rfl | refine And.intro ?_ ?_))
      all_goals first | omega | (simp only; omega) | exact un (by omega) | skip
      refine ⟨(k + 1 + 1, m + (1 + v), c2 + 1, upd ms (k + 1) m, c5), ⟨⟨by simp only; push_cast; omega, by simp only; omega, by simp only; omega⟩, fun h => absurd h (Nat.succ_ne_zero _), ⟨by simp only; omega, by simp only; push_cast; omega⟩, fun i hi => ?_, fun _ => ⟨h51, h52⟩⟩, by simp only; omega, ?_⟩
      · have hi2 : i < k + 1 + 1 := hi
        show t.isMin (upd ms (k + 1) m i)
        unfold upd
        split
        · exact hm
        · exact hms i (by omega)
      refine ent_tau [0, 1, 2, 3, 4, 5, 6, 7, 8, 9, 10, 11, 14] ⟨?_, ?_, rfl⟩
      all_goals (repeat' (first | exact trivial | exact rfl | exact fun _ _ => rfl | exact congrArg (SV.int .i64) (Int.natCast_succ _).symm | refine And.intro ?_ ?_))
      all_goals exact (fun i hi => rowI_upd _ _ _ _ hi)
    · (repeat' (first | exact trivial | exact fun _ => rfl | exact rfl | refine And.intro ?_ ?_))
      refine CodeP.part (seg6d b n cap by' c2 t h s ch cs l hg ⟨B.M, B.hby, B.hn, ⟨hc2.1, by have := hc2.2; push_cast at this; omega⟩, B.hl, B.hh⟩ p fv fe sv se bS cS S D (k + 1) cK ms (by omega) hms hcK'.1 hcK'.2) ?_
      exact ent_tau [0, 1, 2, 3, 4, 5, 6, 7, 8, 9, 10, 11, 12] ⟨by (repeat' (first | exact trivial | exact rfl | exact fun _ _ => rfl | exact Or.inl rfl | refine And.intro ?_ ?_)), by (repeat' (first | exact trivial | exact rfl | exact congrArg (SV.int .i64) (Int.natCast_succ _).symm | refine And.intro ?_ ?_)), rfl⟩
end Go.Proofs.YtipbempkngfdbaaDoor
/-
  The plain law of Clash.
-/
namespace Go.Proofs.YtipbempkngfdbaaDoor
open Go Go.Sy
set_option maxRecDepth 100000
set_option maxHeartbeats 4000000

/-- A tide with some of its looks. -/
def TD.byL (t : TD) (L : List Nat) (b : Bool) (c : Nat) : TD :=
  { t with nL := L.length, bL := b, cL := c, lp := fun m => t.lp (L.getD m 0), lm := fun m => t.lm (L.getD m 0), llo := fun m => t.llo (L.getD m 0), lhi := fun m => t.lhi (L.getD m 0) }
theorem sub_byL (t : TD) (so : Int) : t.sub so = t.byL (keptL so t.nL) true t.nL := rfl
def TD.fitsL (t : TD) (L : List Nat) (h s : Nat → Int) : Bool := L.all fun i => t.fit h i (s (t.lp i).toNat)
theorem byL_right (t : TD) (L : List Nat) (b : Bool) (c : Nat) (h s : Nat → Int) : (t.byL L b c).right h s = t.fitsL L h s := by
  rw [TD.right, TD.fitsL, Bool.eq_iff_iff, allB_iff, List.all_eq_true]
  constructor
  · intro a i hi
    obtain ⟨j, hj, rfl⟩ := List.getElem_of_mem hi
    have := a j hj
    have e : L.getD j 0 = L[j] := by rw [List.getD_eq_getElem?_getD, List.getElem?_eq_getElem hj]; rfl
    rw [← e]
    exact this
  · intro a j hj
    have hj' : j < L.length := hj
    have e : L.getD j 0 = L[j] := by rw [List.getD_eq_getElem?_getD, List.getElem?_eq_getElem hj']; rfl
    have := a (L.getD j 0) (by rw [e]; exact List.getElem_mem hj')
    exact this
theorem byL_valid {t : TD} (hv : t.Valid) {L : List Nat} (b : Bool) (c : Nat) (hl : L.length ≤ t.nL) (hm : ∀ i ∈ L, i < t.nL) : (t.byL L b c).Valid := by
  obtain ⟨h1, h2, h3, h4, h5, h6⟩ := hv
  refine ⟨h1, h2, Nat.le_trans hl h3, h4, h5, fun i hi => ?_⟩
  have hi' : i < L.length := hi
  have hm' : L.getD i 0 ∈ L := by
    rw [List.getD_eq_getElem?_getD, List.getElem?_eq_getElem hi']
    exact List.getElem_mem hi'
  exact h6 _ (hm _ hm')
/-- All truths, by some looks. -/
def TD.truL (t : TD) (L : List Nat) : List ((Nat → Int) × (Nat → Int)) := t.hts.flatMap fun h => (t.sds.filter (t.fitsL L h)).map fun s => (h, s)
theorem byL_tru (t : TD) (L : List Nat) (b : Bool) (c : Nat) : (t.byL L b c).tru = t.truL L := by
  have e : (t.byL L b c).tru = t.hts.flatMap fun h => (t.sds.filter ((t.byL L b c).right h)).map fun s => (h, s) := rfl
  rw [e, TD.truL]
  congr 1
  funext h
  congr 1
  exact List.filter_congr fun s _ => byL_right t L b c h s
theorem truL_congr {t : TD} {L L' : List Nat} (h : ∀ i, i ∈ L ↔ i ∈ L') : t.truL L = t.truL L' := by
  rw [TD.truL, TD.truL]
  congr 1
  funext x
  congr 1
  refine List.filter_congr fun s _ => ?_
  rw [TD.fitsL, TD.fitsL, Bool.eq_iff_iff, List.all_eq_true, List.all_eq_true]
  exact ⟨fun a i hi => a i ((h i).2 hi), fun a i hi => a i ((h i).1 hi)⟩
theorem tru_all (t : TD) : t.tru = t.truL (List.range t.nL) := by
  rw [TD.truL, TD.tru]
  congr 1
  funext h
  congr 1
  refine List.filter_congr fun s _ => ?_
  rw [TD.right, TD.fitsL, Bool.eq_iff_iff, allB_iff, List.all_eq_true]
  simp only [List.mem_range]
theorem box_some {t : TD} (hv : t.Valid) : t.truL [] ≠ [] := by
  have h1 : (fun i => if i < t.nM then t.mlo i else 0) ∈ t.hts := hts_mem.2 ⟨fun i hi => by
    have := hv.marks (i := i) hi
    simp only [TD.markOk] at this
    simp only [if_pos hi]
    omega, fun i hi => by simp only [if_neg (show ¬ i < t.nM by omega)]⟩
  have h2 : (fun i => if i < t.nS then t.slo i else 0) ∈ t.sds := sds_mem.2 ⟨fun i hi => by
    have := hv.2.2.2.2.1 i hi
    simp only [TD.sandOk] at this
    simp only [if_pos hi]
    omega, fun i hi => by simp only [if_neg (show ¬ i < t.nS by omega)]⟩
  intro h
  have : ((fun i => if i < t.nM then t.mlo i else 0), (fun i => if i < t.nS then t.slo i else 0)) ∈ t.truL [] := by
    rw [TD.truL, List.mem_flatMap]
    exact ⟨_, h1, List.mem_map.2 ⟨_, List.mem_filter.2 ⟨h2, rfl⟩, rfl⟩⟩
  rw [h] at this
  simp at this

/-! ### Sets -/
/-- Look n is of a set, in the statement's numbers. -/
def bitI (so : Int) (n : Nat) : Bool := decide (bitOp .and .i64 (so.fdiv (2 ^ n)) 1 = 1)
/-- The looks of a set, of the first k. -/
def pickL (so : Int) : Nat → List Nat
  | 0 => []
  | k + 1 => if bitI so k = true then pickL so k ++ [k] else pickL so k
theorem pickL_mem {so : Int} {i : Nat} : ∀ {k : Nat}, i ∈ pickL so k ↔ i < k ∧ bitI so i = true
  | 0 => by simp [pickL]
  | k + 1 => by
    simp only [pickL]
    split
    · rename_i h
      rw [List.mem_append, pickL_mem (k := k), List.mem_singleton]
      constructor
      · rintro (⟨a, b⟩ | rfl)
        · exact ⟨by omega, b⟩
        · exact ⟨by omega, h⟩
      · rintro ⟨a, b⟩
        rcases Nat.lt_succ_iff_lt_or_eq.1 a with c | c
        · exact .inl ⟨c, b⟩
        · exact .inr c
    · rename_i h
      rw [pickL_mem (k := k)]
      constructor
      · rintro ⟨a, b⟩
        exact ⟨by omega, b⟩
      · rintro ⟨a, b⟩
        rcases Nat.lt_succ_iff_lt_or_eq.1 a with c | c
        · exact ⟨c, b⟩
        · subst c
          exact absurd b h
theorem keptL_mem {so : Int} {i : Nat} : ∀ {k : Nat}, i ∈ keptL so k ↔ i < k ∧ inSet so i = false
  | 0 => by simp [keptL]
  | k + 1 => by
    simp only [keptL]
    split
    · rename_i h
      rw [keptL_mem (k := k)]
      constructor
      · rintro ⟨a, b⟩
        exact ⟨by omega, b⟩
      · rintro ⟨a, b⟩
        rcases Nat.lt_succ_iff_lt_or_eq.1 a with c | c
        · exact ⟨c, b⟩
        · subst c
          rw [h] at b
          cases b
    · rename_i h
      rw [List.mem_append, keptL_mem (k := k), List.mem_singleton]
      constructor
      · rintro (⟨a, b⟩ | rfl)
        · exact ⟨by omega, b⟩
        · exact ⟨by omega, by simpa using h⟩
      · rintro ⟨a, b⟩
        rcases Nat.lt_succ_iff_lt_or_eq.1 a with c | c
        · exact .inl ⟨c, b⟩
        · exact .inr c
theorem pickL_len (so : Int) : ∀ k, (pickL so k).length ≤ k
  | 0 => Nat.le_refl _
  | k + 1 => by
    have := pickL_len so k
    simp only [pickL]
    split
    · simp; omega
    · omega
theorem rest_dec : ∀ n, n < 7 → ∀ so, so < 2 ^ n → ∀ i, i < n → inSet (bitOp .andNot .u64 (2 ^ n - 1) (so : Nat)) i = !bitI (so : Nat) i := by decide +kernel
theorem every_dec : ∀ n, n < 7 → ∀ i, i < n → bitI (2 ^ n - 1) i = true := by decide +kernel
theorem zero_dec : ∀ i, i < 6 → bitI 0 i = false := by decide +kernel
theorem less_dec1 : ∀ n, n < 7 → ∀ so, so < 2 ^ n → ∀ i, i < n → 0 ≤ bitOp .andNot .i64 (so : Nat) (1 * 2 ^ i) ∧ bitOp .andNot .i64 (so : Nat) (1 * 2 ^ i) < 2 ^ n := by decide +kernel
theorem less_dec2 : ∀ so, so < 64 → ∀ i, i < 6 → bitI (so : Nat) i = true → oc64 (bitOp .andNot .i64 (so : Nat) (1 * 2 ^ i)) < oc64 (so : Nat) := by decide +kernel
theorem own_dec : ∀ n, n < 7 → ∀ b, b < 256 → 0 ≤ bitOp .and .i64 (b : Nat) (1 * 2 ^ n - 1) ∧ bitOp .and .i64 (b : Nat) (1 * 2 ^ n - 1) < 2 ^ n := by decide +kernel
theorem size_dec : ∀ s, s < 64 → oc64 (s : Nat) = ((s % 2 : Nat) : Int) + oc64 ((s / 2 : Nat) : Int) := by decide +kernel
theorem oc_dec : ∀ n : Nat, n < 7 → oc64 (2 ^ n - 1) = n := by decide +kernel
theorem oc_range_dec : ∀ s, s < 64 → 0 ≤ oc64 (s : Nat) ∧ oc64 (s : Nat) ≤ 6 := by decide +kernel

/-- Can the looks of a set all be right? -/
theorem can_pick {t : TD} (hv : t.Valid) {so : Int} (h0 : 0 ≤ so) (h1 : so < 2 ^ t.nL) : t.can so = true ↔ t.truL (pickL so t.nL) ≠ [] := by
  obtain ⟨s, rfl⟩ := Int.eq_ofNat_of_zero_le h0
  have h1' : s < 2 ^ t.nL := by exact_mod_cast h1
  have hL := hv.2.2.1
  have hr := fun i hi => rest_dec t.nL (by omega) s h1' i hi
  have e : t.truL (keptL (t.restOf s) t.nL) = t.truL (pickL s t.nL) := truL_congr fun i => by
    rw [keptL_mem, pickL_mem]
    constructor
    · rintro ⟨a, b⟩
      refine ⟨a, ?_⟩
      have := hr i a
      rw [TD.restOf] at b
      rw [b] at this
      simpa using this.symm
    · rintro ⟨a, b⟩
      refine ⟨a, ?_⟩
      rw [TD.restOf, hr i a, b]
      rfl
  rw [TD.can, decide_eq_true_eq, ← e]
  have h2 := all_nil (sub_valid hv (t.restOf s))
  rw [sub_byL, byL_tru] at h2
  exact not_congr h2
theorem pick_every {t : TD} (hv : t.Valid) : t.truL (pickL (2 ^ t.nL - 1) t.nL) = t.tru := by
  rw [tru_all]
  refine truL_congr fun i => ?_
  rw [pickL_mem, List.mem_range]
  exact ⟨fun a => a.1, fun a => ⟨a, every_dec t.nL (by have := hv.2.2.1; omega) i a⟩⟩
theorem pick_zero {t : TD} (hv : t.Valid) : t.truL (pickL 0 t.nL) ≠ [] := by
  have : t.truL (pickL 0 t.nL) = t.truL [] := truL_congr fun i => by
    rw [pickL_mem]
    refine ⟨fun ⟨a, b⟩ => ?_, fun a => by simp at a⟩
    rw [zero_dec i (by have := hv.2.2.1; omega)] at b
    cases b
  rw [this]
  exact box_some hv

theorem inS_spec {can : Int → Bool} {many : Int} : ∀ (c : Nat) (s : Int), (inS can many c s = none ∧ ∀ x, s ≤ x → x < s + c → oc64 x = many → can x = true) ∨
    ∃ v, inS can many c s = some v ∧ s ≤ v ∧ v < s + c ∧ oc64 v = many ∧ can v = false ∧ ∀ x, s ≤ x → x < v → oc64 x = many → can x = true
  | 0, s => .inl ⟨rfl, fun x h1 h2 => by omega⟩
  | c + 1, s => by
    simp only [inS]
    by_cases h : oc64 s = many ∧ can s = false
    · rw [if_pos h]
      exact .inr ⟨s, rfl, Int.le_refl _, by omega, h.1, h.2, fun x h1 h2 => by omega⟩
    · rw [if_neg h]
      have hs : oc64 s = many → can s = true := fun h2 => by
        cases hc : can s
        · exact absurd ⟨h2, hc⟩ h
        · rfl
      rcases inS_spec (can := can) (many := many) c (s + 1) with ⟨e, h1⟩ | ⟨v, e, h1, h2, h3, h4, h5⟩
      · refine .inl ⟨e, fun x h2 h3 h4 => ?_⟩
        rcases Int.lt_or_eq_of_le h2 with h5 | rfl
        · exact h1 x (by omega) (by omega) h4
        · exact hs h4
      · refine .inr ⟨v, e, by omega, by omega, h3, h4, fun x h6 h7 h8 => ?_⟩
        rcases Int.lt_or_eq_of_le h6 with h9 | rfl
        · exact h5 x (by omega) h7 h8
        · exact hs h8
theorem outS_spec {can : Int → Bool} {N : Nat} : ∀ (c : Nat) (m : Int), (outS can N c m = none ∧ ∀ x : Int, 0 ≤ x → x < N → m ≤ oc64 x → oc64 x < m + c → can x = true) ∨
    ∃ v : Int, outS can N c m = some v ∧ 0 ≤ v ∧ v < N ∧ can v = false ∧ ∀ x : Int, 0 ≤ x → x < N → m ≤ oc64 x → can x = false → oc64 v < oc64 x ∨ oc64 v = oc64 x ∧ v ≤ x
  | 0, m => .inl ⟨rfl, fun x h1 h2 h3 h4 => by omega⟩
  | c + 1, m => by
    simp only [outS]
    rcases inS_spec (can := can) (many := m) N 0 with ⟨e, h1⟩ | ⟨v, e, h1, h2, h3, h4, h5⟩
    · rw [e]
      rcases outS_spec (can := can) (N := N) c (m + 1) with ⟨e2, g1⟩ | ⟨v, e2, g1, g2, g3, g4⟩
      · refine .inl ⟨e2, fun x a1 a2 a3 a4 => ?_⟩
        rcases Int.lt_or_eq_of_le a3 with a5 | a5
        · exact g1 x a1 a2 (by omega) (by omega)
        · exact h1 x a1 (by omega) a5.symm
      · refine .inr ⟨v, e2, g1, g2, g3, fun x a1 a2 a3 a4 => ?_⟩
        rcases Int.lt_or_eq_of_le a3 with a5 | a5
        · exact g4 x a1 a2 (by omega) a4
        · rw [h1 x a1 (by omega) a5.symm] at a4
          cases a4
    · rw [e]
      refine .inr ⟨v, rfl, h1, by omega, h4, fun x a1 a2 a3 a4 => ?_⟩
      rcases Int.lt_or_eq_of_le a3 with a5 | a5
      · exact .inl (by omega)
      · refine .inr ⟨by omega, ?_⟩
        rcases Int.lt_or_le x v with a6 | a6
        · rw [h5 x a1 a6 a5.symm] at a4
          cases a4
        · exact a6
/-- What Clash tells. -/
theorem clash_law {t : TD} (hv : t.Valid) : (t.tru ≠ [] ∧ t.clashT = ⟨0, 4⟩) ∨
    ∃ v : Int, t.tru = [] ∧ t.clashT = ⟨v, 0⟩ ∧ 1 ≤ v ∧ v < 2 ^ t.nL ∧ t.truL (pickL v t.nL) = [] ∧ ∀ x : Int, 0 ≤ x → x < 2 ^ t.nL → t.truL (pickL x t.nL) = [] → oc64 v < oc64 x ∨ oc64 v = oc64 x ∧ v ≤ x := by
  have hL := hv.2.2.1
  have hp : (0 : Int) < 2 ^ t.nL := by
    have : 0 < 2 ^ t.nL := Nat.pow_pos (by omega)
    exact_mod_cast this
  have hN : ((2 ^ t.nL : Nat) : Int) = 2 ^ t.nL := by norm_cast
  have he := can_pick hv (so := 2 ^ t.nL - 1) (by omega) (by omega)
  rw [pick_every hv] at he
  by_cases hn : t.tru = []
  · have hc : t.can (2 ^ t.nL - 1) = false := by
      cases h : t.can (2 ^ t.nL - 1)
      · rfl
      · exact absurd hn (he.1 h)
    have hno : ∀ x : Int, 0 ≤ x → x < 2 ^ t.nL → (t.can x = false ↔ t.truL (pickL x t.nL) = []) := fun x h0 h1 => by
      have := can_pick hv h0 h1
      rw [← Bool.not_eq_true, this, Classical.not_not]
    rcases outS_spec (can := t.can) (N := 2 ^ t.nL) (t.nL + 1) 0 with ⟨_, h1⟩ | ⟨v, e, h1, h2, h3, h4⟩
    · have ho := oc_dec t.nL (by omega)
      rw [h1 (2 ^ t.nL - 1) (by omega) (by omega) (by omega) (by push_cast; omega)] at hc
      cases hc
    · have h2' : v < 2 ^ t.nL := by omega
      refine .inr ⟨v, hn, ?_, ?_, h2', (hno v h1 h2').1 h3, fun x a1 a2 a3 => h4 x a1 (by omega) ?_ ((hno x a1 a2).2 a3)⟩
      · unfold TD.clashT
        rw [if_neg (fun h => h hv), if_neg (by rw [hc]; decide), e]
        rfl
      · rcases Int.lt_or_eq_of_le h1 with h5 | rfl
        · omega
        · exact absurd ((hno 0 (Int.le_refl _) h2').1 h3) (pick_zero hv)
      · obtain ⟨y, rfl⟩ := Int.eq_ofNat_of_zero_le a1
        have : 2 ^ t.nL ≤ 2 ^ 6 := Nat.pow_le_pow_right (by omega) hL
        exact (oc_range_dec y (by omega)).1
  · refine .inl ⟨hn, ?_⟩
    unfold TD.clashT
    rw [if_neg (fun h => h hv), if_pos (he.2 hn)]
end Go.Proofs.YtipbempkngfdbaaDoor
