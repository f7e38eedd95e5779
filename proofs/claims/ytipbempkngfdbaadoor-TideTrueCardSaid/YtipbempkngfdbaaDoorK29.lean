/-
  Parts: F14, F7, F15, F16, F17.
-/
import Derived.Test.YtipbempkngfdbaaDoorK28
import Derived.Test.YtipbempkngfdbaaDoorK19
import Derived.Test.YtipbempkngfdbaaDoorK21
import Derived.Test.YtipbempkngfdbaaDoorK23
import Derived.Test.YtipbempkngfdbaaDoorK26
set_option linter.unusedVariables false
/-
  TideTrue: numbers, places, and first minutes.
-/
namespace Go.Proofs.YtipbempkngfdbaaDoor
open Go Go.Sy
set_option linter.unusedSimpArgs false
set_option maxRecDepth 100000
set_option maxHeartbeats 4000000
attribute [local irreducible] CallP CodeP Ent YieldP
set_option maxHeartbeats 16000000

noncomputable def T6b (t : TD) (ch cs : Nat) : Tm := mkT [] [(2, .bool false), (3, .fn (.func 81) [] [.ptr 3 0, .ptr 4 0]), (4, .ptr 10 0), (5, .osl true 8 1 t.nM ch), (6, .osl true 9 1 t.nS cs)] 0 (List.replicate 367 none)
theorem seg6b (b : Bool) (n cap : Nat) (by' : Nat → Int) (c : Int) (t : TD) (h s : Nat → Int) (ch cs : Nat) (M : Made t h s) (hby : ∀ k, 0 ≤ by' k ∧ by' k ≤ 65535) (hn : n ≤ 9223372036854775807) (hc : 0 ≤ c ∧ c ≤ 640000) :
    CodeP Tryd.prog none 3 (sufC Tryd.f6 3) ⟨T6b t ch cs, H6t b n cap by' c t h s, []⟩ (KRet E Tryd.f6 3 (.bool true) (H60 n by')) := by
  have hv := M.v
  have hnn := tru_nn M
  have hM := hv.1
  have hS := hv.2.1
  obtain ⟨mi1, mi2, mi3⟩ := minutes hv
  have hpos : (0 : Int) < (t.tru.length : Nat) := by
    have := List.length_pos_iff.2 hnn
    omega
  have c26 := t26 t
  have c20 := t20 t
  rw [count_tru hv] at c26
  rw [((clash_law hv).resolve_right fun ⟨_, h, _⟩ => hnn h).2] at c20
  have e1 : ((t.nM : Int) - 1).toNat = t.nM - 1 := by omega
  have eL : t.mi (0 + ((t.nM : Int) - 1).toNat) = t.mi (t.nM - 1) := by rw [e1, Nat.zero_add]
  refine codeP_XK E_ok 10 ?_
  refine And.intro ?_ ?_
  · (repeat' (first | exact trivial | exact fun _ => rfl | exact rfl | refine And.intro ?_ ?_))
  refine (c26).use [5, 6, 7, 1, 2] ?_ (by (repeat' (first | exact trivial | exact rfl | exact fun _ _ => rfl | exact Or.inl rfl | refine And.intro ?_ ?_))) rfl
  refine And.intro trivial ?_
  refine (c20).use [5, 6, 7, 1, 2] ?_ (by (repeat' (first | exact trivial | exact rfl | exact fun _ _ => rfl | exact Or.inl rfl | refine And.intro ?_ ?_))) rfl
  refine And.intro ?_ (And.intro (fun hc1 => ?_) (fun hc1 => ?_))
  · (repeat' (first | exact True.intro | exact d1 _ | exact d1t _ | exact d2 _ | exact d3 _ _ | exact d3f _ _ | exact fun _ _ => rfl | exact fun _ => rfl | exact rfl | refine And.intro ?_ ?_))
  · exfalso
    simp [show ¬ ((t.tru.length : Nat) : Int) < 1 by omega] at hc1
  refine And.intro trivial ?_
  refine CallP.frameH (t81 b n cap by' hby hn c ⟨by omega, by omega⟩ t.nS ⟨by omega, by omega⟩) [3, 4, 0] (by (repeat' (first | exact trivial | exact rfl | exact fun _ _ => rfl | exact Or.inl rfl | refine And.intro ?_ ?_))) rfl ?_
  rintro ce h' ⟨pp, hp0, hp1, rfl, rfl⟩
  refine ⟨rfl, ?_⟩
  obtain ⟨p, rfl⟩ : ∃ q : Nat, pp = q := ⟨pp.toNat, by omega⟩
  have hp : p < t.nS := by omega
  refine And.intro trivial ?_
  refine CallP.frameH (t81 b n cap by' hby hn (c + 1) ⟨by omega, by omega⟩ 30 (by decide)) [3, 4, 0] (by (repeat' (first | exact trivial | exact rfl | exact fun _ _ => rfl | exact Or.inl rfl | refine And.intro ?_ ?_))) rfl ?_
  rintro ce h' ⟨l, hl0, hl1, rfl, rfl⟩
  refine ⟨rfl, ?_⟩
  refine And.intro trivial ?_
  refine CallP.frameH (t81 b n cap by' hby hn (c + 1 + 1) ⟨by omega, by omega⟩ 20 (by decide)) [3, 4, 0] (by (repeat' (first | exact trivial | exact rfl | exact fun _ _ => rfl | exact Or.inl rfl | refine And.intro ?_ ?_))) rfl ?_
  rintro ce h' ⟨dh, hd0, hd1, rfl, rfl⟩
  refine ⟨rfl, ?_⟩
  refine And.intro ?_ ?_
  · (repeat' (first | exact trivial | exact fun _ => rfl | exact rfl | refine And.intro ?_ ?_))
    all_goals omega
  refine drawP E_ok [5, 10] pl6_9 (by kernel_rfl) ?_
  refine And.intro ?_ ?_
  · (repeat' (first | exact True.intro | exact d1 _ | exact d1t _ | exact d2 _ | exact d3 _ _ | exact d3f _ _ | exact fun _ _ => rfl | exact fun _ => rfl | exact rfl | refine And.intro ?_ ?_))
    all_goals first | exact un (by omega) | omega
  refine And.intro rfl ?_
  refine And.intro trivial ?_
  obtain ⟨fv, fe, eF, F⟩ := first_is hv hnn hp (l := l) ⟨by omega, by omega⟩ false
  obtain ⟨sv, se, eU, U⟩ := first_is hv hnn hp (l := l) ⟨by omega, by omega⟩ true
  obtain ⟨S, eS, hSp⟩ := served_is hv hnn hp (l := l) (h := l + dh) ⟨by omega, by omega⟩ ⟨by omega, by omega⟩
  have sf := sure_first M hp F U
  have c17a := t17 t p l (t.mi 0) false
  have c17b := t17 t p l (t.mi 0) true
  have c15 := t15b t p l (l + dh)
  rw [eF] at c17a
  rw [eU] at c17b
  rw [eS] at c15
  refine CallP.frameH c15 [5, 6, 7, 1, 2] (by (repeat' (first | exact trivial | exact rfl | exact fun _ _ => rfl | exact Or.inl rfl | refine And.intro ?_ ?_))) rfl ?_
  rintro ce h' (⟨bL, capL, hbL, hnL, rfl, rfl⟩ | ⟨bL, capL, hbL, hnL, hcl1, hcl2, rfl, rfl⟩)
  · refine ⟨rfl, ?_⟩
    refine And.intro trivial ?_
    refine (c17a).use [5, 6, 7, 1, 2] ?_ (by (repeat' (first | exact trivial | exact rfl | exact fun _ _ => rfl | exact Or.inl rfl | refine And.intro ?_ ?_))) rfl
    refine And.intro trivial ?_
    refine (c17b).use [5, 6, 7, 1, 2] ?_ (by (repeat' (first | exact trivial | exact rfl | exact fun _ _ => rfl | exact Or.inl rfl | refine And.intro ?_ ?_))) rfl
    refine And.intro ?_ (And.intro (fun hcd => ?_) (fun hcd => ?_))
    · (repeat' (first | exact True.intro | exact d1 _ | exact d1t _ | exact d2 _ | exact d3 _ _ | exact d3f _ _ | exact fun _ _ => rfl | exact fun _ => rfl | exact rfl | refine And.intro ?_ ?_))
    · exfalso
      clear c15 c17a c17b c20 c26
      obtain ⟨s1, s2, s3⟩ := sf
      rcases s2 with s2 | s2
      · obtain ⟨f1, f2, _⟩ := s3 s2
        simp [s2, f1, show ¬ sv < fv by omega] at hcd
      · rcases s1 with s1 | s1 <;> simp [s2, s1] at hcd
    (repeat' (first | exact trivial | exact fun _ => rfl | exact rfl | refine And.intro ?_ ?_))
    refine CodeP.part (seg6c b n cap by' (c + 1 + 1 + 1) t h s ch cs l (l + dh) ⟨M, hby, hn, ⟨by omega, by omega⟩, ⟨by omega, by omega⟩, ⟨by omega, by omega⟩⟩ (by omega) p fv fe sv se bL capL S ⟨hp, F, U, hSp⟩) ?_
    have hS0 : S = [] := hnL
    subst hS0
    refine entAliasR (i := 5) (H := H6t b n cap by' (c + 1 + 1 + 1) t h s) ?_ rfl
    exact ent_tau [0, 1, 2, 3, 4, 5, 6, 7, 8, 9, 10] ⟨by (repeat' (first | exact trivial | exact rfl | exact fun _ _ => rfl | exact Or.inl rfl | refine And.intro ?_ ?_)), by (repeat' (first | exact trivial | exact rfl | exact congrArg (SV.int .i64) eL | refine And.intro ?_ ?_)), rfl⟩
  · refine ⟨rfl, ?_⟩
    refine And.intro trivial ?_
    refine (c17a).use [5, 6, 7, 1, 2] ?_ (by (repeat' (first | exact trivial | exact rfl | exact fun _ _ => rfl | exact Or.inl rfl | refine And.intro ?_ ?_))) rfl
    refine And.intro trivial ?_
    refine (c17b).use [5, 6, 7, 1, 2] ?_ (by (repeat' (first | exact trivial | exact rfl | exact fun _ _ => rfl | exact Or.inl rfl | refine And.intro ?_ ?_))) rfl
    refine And.intro ?_ (And.intro (fun hcd => ?_) (fun hcd => ?_))
    · (repeat' (first | exact True.intro | exact d1 _ | exact d1t _ | exact d2 _ | exact d3 _ _ | exact d3f _ _ | exact fun _ _ => rfl | exact fun _ => rfl | exact rfl | refine And.intro ?_ ?_))
    · exfalso
      clear c15 c17a c17b c20 c26
      obtain ⟨s1, s2, s3⟩ := sf
      rcases s2 with s2 | s2
      · obtain ⟨f1, f2, _⟩ := s3 s2
        simp [s2, f1, show ¬ sv < fv by omega] at hcd
      · rcases s1 with s1 | s1 <;> simp [s2, s1] at hcd
    (repeat' (first | exact trivial | exact fun _ => rfl | exact rfl | refine And.intro ?_ ?_))
    refine CodeP.part (seg6c b n cap by' (c + 1 + 1 + 1) t h s ch cs l (l + dh) ⟨M, hby, hn, ⟨by omega, by omega⟩, ⟨by omega, by omega⟩, ⟨by omega, by omega⟩⟩ (by omega) p fv fe sv se bL capL S ⟨hp, F, U, hSp⟩) ?_
    exact ent_tau [0, 1, 2, 3, 4, 5, 6, 7, 8, 9, 10, 11] ⟨by (repeat' (first | exact trivial | exact rfl | exact fun _ _ => rfl | exact Or.inl rfl | refine And.intro ?_ ?_)), by (repeat' (first | exact trivial | exact rfl | exact congrArg (SV.int .i64) eL | refine And.intro ?_ ?_)), rfl⟩
end Go.Proofs.YtipbempkngfdbaaDoor
/-
  Contract: made.
-/
namespace Go.Proofs.YtipbempkngfdbaaDoor
open Go Go.Sy
set_option linter.unusedSimpArgs false
set_option maxRecDepth 100000
set_option maxHeartbeats 4000000
attribute [local irreducible] CallP CodeP Ent YieldP
set_option maxHeartbeats 16000000

def pl28_6s : Plan := .eager 0 <| .eager 2 <| .eager 3 <| .eager 4 <| .eager 9 <| .eager 10 <| .alt 1 (.alt 5 (.eager 6 <| .alt 7 (.alt 8 (.eager 13 <| .alt 11 (.alt 12 (.alt 14 (.eager 15 <| .done) .no) .no) .no) (.alt 11 (.alt 8 (.eager 13 <| .alt 12 (.alt 14 (.eager 15 <| .done) .no) .no) .no) .no)) (.alt 11 (.alt 7 (.alt 8 (.eager 13 <| .alt 12 (.alt 14 (.eager 15 <| .done) .no) .no) .no) .no) .no)) (.alt 11 (.alt 5 (.eager 6 <| .alt 7 (.alt 8 (.eager 13 <| .alt 12 (.alt 14 (.eager 15 <| .done) .no) .no) .no) .no) .no) .no)) (.alt 5 (.eager 6 <| .alt 1 (.alt 7 (.alt 8 (.eager 13 <| .alt 11 (.alt 12 (.alt 14 (.eager 15 <| .done) .no) .no) .no) (.alt 11 (.alt 8 (.eager 13 <| .alt 12 (.alt 14 (.eager 15 <| .done) .no) .no) .no) .no)) (.alt 11 (.alt 7 (.alt 8 (.eager 13 <| .alt 12 (.alt 14 (.eager 15 <| .done) .no) .no) .no) .no) .no)) (.alt 7 (.alt 1 (.alt 8 (.eager 13 <| .alt 11 (.alt 12 (.alt 14 (.eager 15 <| .done) .no) .no) .no) (.alt 11 (.alt 8 (.eager 13 <| .alt 12 (.alt 14 (.eager 15 <| .done) .no) .no) .no) .no)) (.alt 11 (.alt 1 (.alt 8 (.eager 13 <| .alt 12 (.alt 14 (.eager 15 <| .done) .no) .no) .no) .no) .no)) (.alt 11 (.alt 1 (.alt 7 (.alt 8 (.eager 13 <| .alt 12 (.alt 14 (.eager 15 <| .done) .no) .no) .no) .no) (.alt 7 (.alt 1 (.alt 8 (.eager 13 <| .alt 12 (.alt 14 (.eager 15 <| .done) .no) .no) .no) .no) .no)) .no))) (.alt 11 (.alt 1 (.alt 5 (.eager 6 <| .alt 7 (.alt 8 (.eager 13 <| .alt 12 (.alt 14 (.eager 15 <| .done) .no) .no) .no) .no) .no) (.alt 5 (.eager 6 <| .alt 1 (.alt 7 (.alt 8 (.eager 13 <| .alt 12 (.alt 14 (.eager 15 <| .done) .no) .no) .no) .no) (.alt 7 (.alt 1 (.alt 8 (.eager 13 <| .alt 12 (.alt 14 (.eager 15 <| .done) .no) .no) .no) .no) .no)) .no)) .no))

theorem row3_upd (a b c : Nat → Int) (k i : Nat) (x y z : Int) (hi : i < k + 1) : selL (decide (i < k)) (row3 a b c i) (getOf 3 [.int .i64 x, .int .i64 y, .int .i64 z] (0 + (i - k))) = row3 (upd a k x) (upd b k y) (upd c k z) i := by
  rcases Nat.lt_succ_iff_lt_or_eq.1 hi with h | rfl
  · rw [decide_eq_true h, selL_true]
    simp [row3, upd, Nat.ne_of_lt h]
  · rw [decide_eq_false (Nat.lt_irrefl _), selL_false, Nat.sub_self]
    simp [row3, upd]
    rfl
structure MarksK (k : Nat) (m : Int) (mi mlo mhi h : Nat → Int) : Prop where
  ok : ∀ i, i < k → ((0 ≤ mi i ∧ mi i ≤ 19 + 65 * (i : Int)) ∧ (0 ≤ mlo i ∧ mlo i ≤ h i) ∧ (h i ≤ mhi i ∧ mhi i ≤ 60)) ∧ mhi i - mlo i ≤ 2 ∧ (0 < i → mi (i - 1) + 6 ≤ mi i)
  m : (0 ≤ m ∧ m ≤ 19 + 65 * (k : Int)) ∧ (0 < k → mi (k - 1) + 6 ≤ m)
  z : ∀ i, k ≤ i → h i = 0
  r1 : ∀ i, InR .i64 (mi i)
  r2 : ∀ i, InR .i64 (mlo i)
  r3 : ∀ i, InR .i64 (mhi i)
theorem MarksK.step {k : Nat} {m : Int} {mi mlo mhi h : Nat → Int} (S : MarksK k m mi mlo mhi h) (hk : k < 4) {lo x hi d : Int} (hx : (0 ≤ lo ∧ lo ≤ x) ∧ x ≤ hi ∧ hi ≤ 60) (hw : hi - lo ≤ 2) (hd : 0 ≤ d ∧ d < 60) : MarksK (k + 1) (m + (6 + d)) (upd mi k m) (upd mlo k lo) (upd mhi k hi) (upd h k x) := by
  have sm := S.m
  have r : ∀ (f : Nat → Int) (v : Int), (∀ q, InR .i64 (f q)) → 0 ≤ v ∧ v ≤ 1000 → ∀ q, InR .i64 (upd f k v q) := fun f v hf hv q => by
    unfold upd
    split
    · exact (inR_iff _).2 ⟨by omega, by omega⟩
    · exact hf q
  refine ⟨fun i hi => ?_, ⟨⟨by omega, by push_cast; omega⟩, fun _ => ?_⟩, fun i hi => ?_, r _ _ S.r1 ⟨by omega, by omega⟩, r _ _ S.r2 ⟨by omega, by omega⟩, r _ _ S.r3 ⟨by omega, by omega⟩⟩
  · rcases Nat.lt_succ_iff_lt_or_eq.1 hi with hl | rfl
    · simp only [upd, if_neg (Nat.ne_of_lt hl), if_neg (show i - 1 ≠ k by omega)]
      exact S.ok i hl
    · simp only [upd, if_true]
      refine ⟨⟨sm.1, hx.1, hx.2⟩, hw, fun h0 => ?_⟩
      rw [if_neg (by omega)]
      exact sm.2 h0
  · show upd mi k m k + 6 ≤ _
    simp only [upd, if_true]
    omega
  · simp only [upd, if_neg (Nat.ne_of_gt hi)]
    exact S.z i (by omega)
def wm (k : Nat) (mi mlo mhi : Nat → Int) (c : Nat) : TD := { nM := k, nS := 0, nL := 0, mi := mi, mlo := mlo, mhi := mhi, slo := fun _ => 0, shi := fun _ => 0, lp := fun _ => 0, lm := fun _ => 0, llo := fun _ => 0, lhi := fun _ => 0, bM := true, bS := true, bL := false, cM := c, cS := 0, cL := 0 }
theorem wm_ok {k : Nat} {m : Int} {mi mlo mhi h : Nat → Int} (S : MarksK k m mi mlo mhi h) (h1 : 2 ≤ k) (h2 : k ≤ 4) (c : Nat) : MarksOk (wm k mi mlo mhi c) h := by
  refine ⟨⟨h1, h2⟩, fun i hi => ?_, S.r1, S.r2, S.r3, fun i => ?_, fun i hi => ?_, S.z⟩
  · have hi' : i < k := hi
    have := S.ok i hi'
    exact ⟨⟨this.1.1.1, by show mi i ≤ 240; omega⟩, ⟨this.1.2.1.1, by show mlo i ≤ mhi i; omega, this.1.2.2.2⟩, this.2.1, this.2.2⟩
  · by_cases hi : i < k
    · have := S.ok i hi
      omega
    · rw [S.z i (by omega)]
      omega
  · have := S.ok i hi
    exact ⟨this.1.2.1.2, this.1.2.2.1⟩
def HA0 (b : Bool) (n cap : Nat) (by' : Nat → Int) (c : Int) : SHeap := [some (.cells [.int .i64 c]), some (.roc [.osl b 2 1 n cap]), some (.roa 1 n fun k => [.int .u16 (by' k)]), some (.cells [.fn (.func 81) [] [.ptr 0 0, .ptr 1 0]]), some (.cells [.snil, .snil, .snil])]
def HA1 (b : Bool) (n cap : Nat) (by' : Nat → Int) (c : Int) (k cM ch : Nat) (mi mlo mhi h : Nat → Int) : SHeap := [some (.cells [.int .i64 c]), some (.roc [.osl b 2 1 n cap]), some (.roa 1 n fun k => [.int .u16 (by' k)]), some (.cells [.fn (.func 81) [] [.ptr 0 0, .ptr 1 0]]), some (.cells [.slice 5 3 0 k cM, .snil, .snil]), some (.arr 3 k cM (row3 mi mlo mhi)), some (.arr 1 k ch (rowI h))]
theorem t28 (b : Bool) (n cap : Nat) (by' : Nat → Int) (hby : ∀ k, 0 ≤ by' k ∧ by' k ≤ 65535) (hn : n ≤ 9223372036854775807) (c : Int) (hc : 0 ≤ c ∧ c ≤ 300000) :
    CallP Tryd.prog 28 [.fn (.func 81) [] [.ptr 0 0, .ptr 1 0]] (HD b n cap by' c) (KMade b n cap by') := by
  refine callKK (E := E) E_ok 4 Tryd.func28 rfl ?_
  refine And.intro ?_ ?_
  · (repeat' (first | exact trivial | exact fun _ => rfl | exact rfl | refine And.intro ?_ ?_))
  refine CallP.frameH (t81 b n cap by' hby hn c ⟨by omega, by omega⟩ 20 (by decide)) [0, 1, 2] (by (repeat' (first | exact trivial | exact rfl | exact fun _ _ => rfl | exact Or.inl rfl | refine And.intro ?_ ?_))) rfl ?_
  rintro ce h' ⟨m0, hm00, hm01, rfl, rfl⟩
  refine ⟨rfl, ?_⟩
  refine And.intro ?_ ?_
  · (repeat' (first | exact trivial | exact fun _ => rfl | exact rfl | refine And.intro ?_ ?_))
  refine CallP.frameH (t81 b n cap by' hby hn (c + 1) ⟨by omega, by omega⟩ 3 (by decide)) [0, 1, 2] (by (repeat' (first | exact trivial | exact rfl | exact fun _ _ => rfl | exact Or.inl rfl | refine And.intro ?_ ?_))) rfl ?_
  rintro ce h' ⟨v, hv0, hv1, rfl, rfl⟩
  refine ⟨rfl, ?_⟩
  refine And.intro ?_ ?_
  · (repeat' (first | exact trivial | exact fun _ => rfl | exact rfl | refine And.intro ?_ ?_))
    all_goals omega
  obtain ⟨N, eN⟩ : ∃ N : Nat, 2 + v = (N : Int) := ⟨(2 + v).toNat, by omega⟩
  refine cutP [] [(1, .ptr 3 0), (2, .ptr 4 0), (3, .snil), (4, .snil), (5, .fn (.func 82) [] [.ptr 3 0]), (6, .int .i64 m0), (17, .int .i64 N), (18, .int .i64 0)] (fun _ => HA0 b n cap by' (c + 1 + 1)) ?_ ?_
  · refine ent_tau [0, 1, 2, 3, 4] ⟨by (repeat' (first | exact trivial | exact rfl | exact fun _ _ => rfl | exact Or.inl rfl | refine And.intro ?_ ?_)), ?_, rfl⟩
    (repeat' (first | exact trivial | exact rfl | exact congrArg (SV.int .i64) eN | refine And.intro ?_ ?_))
  refine loopP E_ok [1, 2, 4, 5, 17] (fun g : Nat × Int × Int × (Nat → Int) × (Nat → Int) × (Nat → Int) × (Nat → Int) × Nat × Nat => match g.1 with | 0 => [(3, .snil), (6, .int .i64 g.2.2.1), (18, .int .i64 0)] | k + 1 => [(3, .slice 6 1 0 (k + 1) g.2.2.2.2.2.2.2.2), (6, .int .i64 g.2.2.1), (18, .int .i64 (k + 1 : Nat))])
    (fun g _ => match g.1 with | 0 => HA0 b n cap by' g.2.1 | k + 1 => HA1 b n cap by' g.2.1 (k + 1) g.2.2.2.2.2.2.2.1 g.2.2.2.2.2.2.2.2 g.2.2.2.1 g.2.2.2.2.1 g.2.2.2.2.2.1 g.2.2.2.2.2.2.1)
    (fun g => g.1 ≤ N ∧ (0 ≤ g.2.1 ∧ g.2.1 ≤ 300002 + 10 * g.1) ∧ MarksK g.1 g.2.2.1 g.2.2.2.1 g.2.2.2.2.1 g.2.2.2.2.2.1 g.2.2.2.2.2.2.1 ∧ (0 < g.1 → (g.1 ≤ g.2.2.2.2.2.2.2.1 ∧ g.2.2.2.2.2.2.2.1 ≤ 9223372036854775807) ∧ g.1 ≤ g.2.2.2.2.2.2.2.2 ∧ g.2.2.2.2.2.2.2.2 ≤ 9223372036854775807)) (fun g => N - g.1)
    (0, c + 1 + 1, m0, fun _ => 0, fun _ => 0, fun _ => 0, fun _ => 0, 0, 0) ⟨Nat.zero_le _, ⟨by simp only; omega, by simp only; omega⟩, ?_, fun h => absurd h (Nat.lt_irrefl 0)⟩ ?_ ?_
  · have z : ∀ q : Nat, InR .i64 ((fun _ : Nat => (0 : Int)) q) := fun _ => (inR_iff _).2 ⟨by show _ ≤ (0 : Int); decide, by show (0 : Int) ≤ _; decide⟩
    exact ⟨fun i hi => absurd hi (Nat.not_lt_zero i), ⟨⟨hm00, by simp only; omega⟩, fun h => absurd h (Nat.lt_irrefl 0)⟩, fun _ _ => rfl, z, z, z⟩
  · exact ent_tau [0, 1, 2, 3, 4] ⟨by (repeat' (first | exact trivial | exact rfl | exact fun _ _ => rfl | exact Or.inl rfl | refine And.intro ?_ ?_)), by (repeat' (first | exact trivial | exact rfl | exact congrArg (SV.int .i64) (Int.natCast_succ _).symm | refine And.intro ?_ ?_)), rfl⟩
  rintro ⟨k, c2, m, mi, mlo, mhi, h, cM, ch⟩ ⟨hk, hc2, S, hcap⟩
  simp only at hk hc2 S hcap
  have sm := S.m.1
  cases k with
  | zero =>
    
    refine And.intro ?_ (And.intro (fun hcc => ?_) (fun hcc => ?_))
    · (repeat' (first | exact trivial | exact fun _ => rfl | exact rfl | refine And.intro ?_ ?_))
    · have hkN : (0) < N := by
        have := of_decide_eq_true hcc
        omega
      refine And.intro trivial ?_
      refine CallP.frameH (t81 b n cap by' hby hn c2 ⟨by omega, by omega⟩ 61 (by decide)) [0, 1, 2] (by (repeat' (first | exact trivial | exact rfl | exact fun _ _ => rfl | exact Or.inl rfl | refine And.intro ?_ ?_))) rfl ?_
      rintro ce h' ⟨x, hx0, hx1, rfl, rfl⟩
      refine ⟨rfl, ?_⟩
      refine And.intro trivial ?_
      have c82 := t82 b n cap by' hby hn (c2 + 1) ⟨by omega, by omega⟩ x ⟨by omega, by omega⟩
      refine drawP E_ok [3] pl28_6s (by kernel_rfl) ?_
      (repeat' (first | exact trivial | exact fun _ => rfl | exact rfl | refine And.intro ?_ ?_))
      all_goals refine CallP.frameH c82 [0, 1, 2, 3] (by (repeat' (first | exact trivial | exact rfl | exact fun _ _ => rfl | exact Or.inl rfl | refine And.intro ?_ ?_))) rfl ?_
      all_goals rintro ce h' ⟨lo, hi, ⟨hl0, hl1, hl2, hl3, hl4⟩, rfl, rfl⟩
      all_goals refine ⟨rfl, ?_⟩
      all_goals (repeat' (first | exact trivial | exact fun _ => rfl | exact rfl | refine And.intro ?_ ?_))
      all_goals first | (intro c5 h51 h52) | decide | omega | exact hcap'.1.1 | exact hcap'.1.2 | exact hcap'.2.1 | exact hcap'.2.2 | exact one1 rfl | (show _ * 24 ≤ 140737488355328; omega) | (show _ * 8 ≤ 140737488355328; omega)
      all_goals (repeat' (first | exact trivial | exact fun _ => rfl | exact rfl | refine And.intro ?_ ?_))
      all_goals first | (intro c6 h61 h62) | decide | omega | exact hcap'.1.1 | exact hcap'.1.2 | exact hcap'.2.1 | exact hcap'.2.2 | exact one1 rfl | (show _ * 24 ≤ 140737488355328; omega) | (show _ * 8 ≤ 140737488355328; omega)
      all_goals (repeat' (first | exact trivial | exact fun _ => rfl | exact rfl | refine And.intro ?_ ?_))
      all_goals first | omega | exact un (by omega) | skip
      all_goals refine CallP.frameH (t81 b n cap by' hby hn (c2 + 1 + 2) ⟨by omega, by omega⟩ 60 (by decide)) [0, 1, 2] (by (repeat' (first | exact trivial | exact rfl | exact fun _ _ => rfl | exact Or.inl rfl | refine And.intro ?_ ?_))) rfl ?_
      all_goals rintro ce h' ⟨d, hd0, hd1, rfl, rfl⟩
      all_goals refine ⟨rfl, ?_⟩
      all_goals (repeat' (first | exact trivial | exact fun _ => rfl | exact rfl | refine And.intro ?_ ?_))
      all_goals first | omega | exact un (by omega) | (simp only; omega) | skip
      all_goals refine ⟨(0 + 1, c2 + 1 + 2 + 1, m + (6 + d), upd mi (0) m, upd mlo (0) lo, upd mhi (0) hi, upd h (0) x, c5, c6), ⟨hkN, ⟨by simp only; omega, by simp only; omega⟩, S.step (by omega) ⟨⟨hl0, hl1⟩, hl2, hl3⟩ hl4 ⟨hd0, hd1⟩, fun _ => ⟨⟨h51, h52⟩, h61, h62⟩⟩, by simp only; omega, ?_⟩
      · refine ent_tau [0, 1, 2, 3, 4, 6, 8] ⟨?_, ?_, rfl⟩
        all_goals (repeat' (first | exact trivial | exact rfl | exact fun _ _ => rfl | exact congrArg (SV.int .i64) (Int.natCast_succ _).symm | refine And.intro ?_ ?_))
        all_goals first | exact (fun i hi => by have h0 : i = 0 := Nat.lt_one_iff.1 hi; subst h0; simp [row3, upd]; rfl) | exact (fun i hi => by have h0 : i = 0 := Nat.lt_one_iff.1 hi; subst h0; simp [rowI, upd]; rfl)
      · refine ent_tau [0, 1, 2, 3, 4, 7, 8] ⟨?_, ?_, rfl⟩
        all_goals (repeat' (first | exact trivial | exact rfl | exact fun _ _ => rfl | exact congrArg (SV.int .i64) (Int.natCast_succ _).symm | refine And.intro ?_ ?_))
        all_goals first | exact (fun i hi => by have h0 : i = 0 := Nat.lt_one_iff.1 hi; subst h0; simp [row3, upd]; rfl) | exact (fun i hi => by have h0 : i = 0 := Nat.lt_one_iff.1 hi; subst h0; simp [rowI, upd]; rfl)
      · refine ent_tau [0, 1, 2, 3, 4, 7, 8] ⟨?_, ?_, rfl⟩
        all_goals (repeat' (first | exact trivial | exact rfl | exact fun _ _ => rfl | exact congrArg (SV.int .i64) (Int.natCast_succ _).symm | refine And.intro ?_ ?_))
        all_goals first | exact (fun i hi => by have h0 : i = 0 := Nat.lt_one_iff.1 hi; subst h0; simp [row3, upd]; rfl) | exact (fun i hi => by have h0 : i = 0 := Nat.lt_one_iff.1 hi; subst h0; simp [rowI, upd]; rfl)
      · refine ent_tau [0, 1, 2, 3, 4, 7, 8] ⟨?_, ?_, rfl⟩
        all_goals (repeat' (first | exact trivial | exact rfl | exact fun _ _ => rfl | exact congrArg (SV.int .i64) (Int.natCast_succ _).symm | refine And.intro ?_ ?_))
        all_goals first | exact (fun i hi => by have h0 : i = 0 := Nat.lt_one_iff.1 hi; subst h0; simp [row3, upd]; rfl) | exact (fun i hi => by have h0 : i = 0 := Nat.lt_one_iff.1 hi; subst h0; simp [rowI, upd]; rfl)
      · refine ent_tau [0, 1, 2, 3, 4, 6, 8] ⟨?_, ?_, rfl⟩
        all_goals (repeat' (first | exact trivial | exact rfl | exact fun _ _ => rfl | exact congrArg (SV.int .i64) (Int.natCast_succ _).symm | refine And.intro ?_ ?_))
        all_goals first | exact (fun i hi => by have h0 : i = 0 := Nat.lt_one_iff.1 hi; subst h0; simp [row3, upd]; rfl) | exact (fun i hi => by have h0 : i = 0 := Nat.lt_one_iff.1 hi; subst h0; simp [rowI, upd]; rfl)
      · refine ent_tau [0, 1, 2, 3, 4, 7, 8] ⟨?_, ?_, rfl⟩
        all_goals (repeat' (first | exact trivial | exact rfl | exact fun _ _ => rfl | exact congrArg (SV.int .i64) (Int.natCast_succ _).symm | refine And.intro ?_ ?_))
        all_goals first | exact (fun i hi => by have h0 : i = 0 := Nat.lt_one_iff.1 hi; subst h0; simp [row3, upd]; rfl) | exact (fun i hi => by have h0 : i = 0 := Nat.lt_one_iff.1 hi; subst h0; simp [rowI, upd]; rfl)
      · refine ent_tau [0, 1, 2, 3, 4, 7, 8] ⟨?_, ?_, rfl⟩
        all_goals (repeat' (first | exact trivial | exact rfl | exact fun _ _ => rfl | exact congrArg (SV.int .i64) (Int.natCast_succ _).symm | refine And.intro ?_ ?_))
        all_goals first | exact (fun i hi => by have h0 : i = 0 := Nat.lt_one_iff.1 hi; subst h0; simp [row3, upd]; rfl) | exact (fun i hi => by have h0 : i = 0 := Nat.lt_one_iff.1 hi; subst h0; simp [rowI, upd]; rfl)
      · refine ent_tau [0, 1, 2, 3, 4, 6, 8] ⟨?_, ?_, rfl⟩
        all_goals (repeat' (first | exact trivial | exact rfl | exact fun _ _ => rfl | exact congrArg (SV.int .i64) (Int.natCast_succ _).symm | refine And.intro ?_ ?_))
        all_goals first | exact (fun i hi => by have h0 : i = 0 := Nat.lt_one_iff.1 hi; subst h0; simp [row3, upd]; rfl) | exact (fun i hi => by have h0 : i = 0 := Nat.lt_one_iff.1 hi; subst h0; simp [rowI, upd]; rfl)
      · refine ent_tau [0, 1, 2, 3, 4, 7, 8] ⟨?_, ?_, rfl⟩
        all_goals (repeat' (first | exact trivial | exact rfl | exact fun _ _ => rfl | exact congrArg (SV.int .i64) (Int.natCast_succ _).symm | refine And.intro ?_ ?_))
        all_goals first | exact (fun i hi => by have h0 : i = 0 := Nat.lt_one_iff.1 hi; subst h0; simp [row3, upd]; rfl) | exact (fun i hi => by have h0 : i = 0 := Nat.lt_one_iff.1 hi; subst h0; simp [rowI, upd]; rfl)
      · refine ent_tau [0, 1, 2, 3, 4, 7, 8] ⟨?_, ?_, rfl⟩
        all_goals (repeat' (first | exact trivial | exact rfl | exact fun _ _ => rfl | exact congrArg (SV.int .i64) (Int.natCast_succ _).symm | refine And.intro ?_ ?_))
        all_goals first | exact (fun i hi => by have h0 : i = 0 := Nat.lt_one_iff.1 hi; subst h0; simp [row3, upd]; rfl) | exact (fun i hi => by have h0 : i = 0 := Nat.lt_one_iff.1 hi; subst h0; simp [rowI, upd]; rfl)
      · refine ent_tau [0, 1, 2, 3, 4, 7, 8] ⟨?_, ?_, rfl⟩
        all_goals (repeat' (first | exact trivial | exact rfl | exact fun _ _ => rfl | exact congrArg (SV.int .i64) (Int.natCast_succ _).symm | refine And.intro ?_ ?_))
        all_goals first | exact (fun i hi => by have h0 : i = 0 := Nat.lt_one_iff.1 hi; subst h0; simp [row3, upd]; rfl) | exact (fun i hi => by have h0 : i = 0 := Nat.lt_one_iff.1 hi; subst h0; simp [rowI, upd]; rfl)
      · refine ent_tau [0, 1, 2, 3, 4, 7, 8] ⟨?_, ?_, rfl⟩
        all_goals (repeat' (first | exact trivial | exact rfl | exact fun _ _ => rfl | exact congrArg (SV.int .i64) (Int.natCast_succ _).symm | refine And.intro ?_ ?_))
        all_goals first | exact (fun i hi => by have h0 : i = 0 := Nat.lt_one_iff.1 hi; subst h0; simp [row3, upd]; rfl) | exact (fun i hi => by have h0 : i = 0 := Nat.lt_one_iff.1 hi; subst h0; simp [rowI, upd]; rfl)
      · refine ent_tau [0, 1, 2, 3, 4, 7, 8] ⟨?_, ?_, rfl⟩
        all_goals (repeat' (first | exact trivial | exact rfl | exact fun _ _ => rfl | exact congrArg (SV.int .i64) (Int.natCast_succ _).symm | refine And.intro ?_ ?_))
        all_goals first | exact (fun i hi => by have h0 : i = 0 := Nat.lt_one_iff.1 hi; subst h0; simp [row3, upd]; rfl) | exact (fun i hi => by have h0 : i = 0 := Nat.lt_one_iff.1 hi; subst h0; simp [rowI, upd]; rfl)
      · refine ent_tau [0, 1, 2, 3, 4, 7, 8] ⟨?_, ?_, rfl⟩
        all_goals (repeat' (first | exact trivial | exact rfl | exact fun _ _ => rfl | exact congrArg (SV.int .i64) (Int.natCast_succ _).symm | refine And.intro ?_ ?_))
        all_goals first | exact (fun i hi => by have h0 : i = 0 := Nat.lt_one_iff.1 hi; subst h0; simp [row3, upd]; rfl) | exact (fun i hi => by have h0 : i = 0 := Nat.lt_one_iff.1 hi; subst h0; simp [rowI, upd]; rfl)
      · refine ent_tau [0, 1, 2, 3, 4, 7, 8] ⟨?_, ?_, rfl⟩
        all_goals (repeat' (first | exact trivial | exact rfl | exact fun _ _ => rfl | exact congrArg (SV.int .i64) (Int.natCast_succ _).symm | refine And.intro ?_ ?_))
        all_goals first | exact (fun i hi => by have h0 : i = 0 := Nat.lt_one_iff.1 hi; subst h0; simp [row3, upd]; rfl) | exact (fun i hi => by have h0 : i = 0 := Nat.lt_one_iff.1 hi; subst h0; simp [rowI, upd]; rfl)
    · have := of_decide_eq_false hcc
      omega
  | succ k =>
    have hcap' := hcap (Nat.succ_pos k)
    refine And.intro ?_ (And.intro (fun hcc => ?_) (fun hcc => ?_))
    · (repeat' (first | exact trivial | exact fun _ => rfl | exact rfl | refine And.intro ?_ ?_))
    · have hkN : (k + 1) < N := by
        have := of_decide_eq_true hcc
        omega
      refine And.intro trivial ?_
      refine CallP.frameH (t81 b n cap by' hby hn c2 ⟨by omega, by omega⟩ 61 (by decide)) [0, 1, 2] (by (repeat' (first | exact trivial | exact rfl | exact fun _ _ => rfl | exact Or.inl rfl | refine And.intro ?_ ?_))) rfl ?_
      rintro ce h' ⟨x, hx0, hx1, rfl, rfl⟩
      refine ⟨rfl, ?_⟩
      refine And.intro trivial ?_
      have c82 := t82 b n cap by' hby hn (c2 + 1) ⟨by omega, by omega⟩ x ⟨by omega, by omega⟩
      refine drawP E_ok [3] pl28_6s (by kernel_rfl) ?_
      (repeat' (first | exact trivial | exact fun _ => rfl | exact rfl | refine And.intro ?_ ?_))
      all_goals refine CallP.frameH c82 [0, 1, 2, 3] (by (repeat' (first | exact trivial | exact rfl | exact fun _ _ => rfl | exact Or.inl rfl | refine And.intro ?_ ?_))) rfl ?_
      all_goals rintro ce h' ⟨lo, hi, ⟨hl0, hl1, hl2, hl3, hl4⟩, rfl, rfl⟩
      all_goals refine ⟨rfl, ?_⟩
      all_goals (repeat' (first | exact trivial | exact fun _ => rfl | exact rfl | refine And.intro ?_ ?_))
      all_goals first | (intro c5 h51 h52) | decide | omega | exact hcap'.1.1 | exact hcap'.1.2 | exact hcap'.2.1 | exact hcap'.2.2 | exact one1 rfl | (show _ * 24 ≤ 140737488355328; omega) | (show _ * 8 ≤ 140737488355328; omega)
      all_goals (repeat' (first | exact trivial | exact fun _ => rfl | exact rfl | refine And.intro ?_ ?_))
      all_goals first | (intro c6 h61 h62) | decide | omega | exact hcap'.1.1 | exact hcap'.1.2 | exact hcap'.2.1 | exact hcap'.2.2 | exact one1 rfl | (show _ * 24 ≤ 140737488355328; omega) | (show _ * 8 ≤ 140737488355328; omega)
      all_goals (repeat' (first | exact trivial | exact fun _ => rfl | exact rfl | refine And.intro ?_ ?_))
      all_goals first | omega | exact un (by omega) | skip
      all_goals refine CallP.frameH (t81 b n cap by' hby hn (c2 + 1 + 2) ⟨by omega, by omega⟩ 60 (by decide)) [0, 1, 2] (by (repeat' (first | exact trivial | exact rfl | exact fun _ _ => rfl | exact Or.inl rfl | refine And.intro ?_ ?_))) rfl ?_
      all_goals rintro ce h' ⟨d, hd0, hd1, rfl, rfl⟩
      all_goals refine ⟨rfl, ?_⟩
      all_goals (repeat' (first | exact trivial | exact fun _ => rfl | exact rfl | refine And.intro ?_ ?_))
      all_goals first | omega | exact un (by omega) | (simp only; omega) | skip
      all_goals refine ⟨(k + 1 + 1, c2 + 1 + 2 + 1, m + (6 + d), upd mi (k + 1) m, upd mlo (k + 1) lo, upd mhi (k + 1) hi, upd h (k + 1) x, c5, c6), ⟨hkN, ⟨by simp only; omega, by simp only; omega⟩, S.step (by omega) ⟨⟨hl0, hl1⟩, hl2, hl3⟩ hl4 ⟨hd0, hd1⟩, fun _ => ⟨⟨h51, h52⟩, h61, h62⟩⟩, by simp only; omega, ?_⟩
      · refine ent_tau [0, 1, 2, 3, 4, 8, 10] ⟨?_, ?_, rfl⟩
        all_goals (repeat' (first | exact trivial | exact rfl | exact fun _ _ => rfl | exact congrArg (SV.int .i64) (Int.natCast_succ _).symm | refine And.intro ?_ ?_))
        all_goals first | exact (fun i hi => row3_upd _ _ _ _ _ _ _ _ hi) | exact (fun i hi => rowI_upd _ _ _ _ hi)
      · refine ent_tau [0, 1, 2, 3, 4, 9, 10] ⟨?_, ?_, rfl⟩
        all_goals (repeat' (first | exact trivial | exact rfl | exact fun _ _ => rfl | exact congrArg (SV.int .i64) (Int.natCast_succ _).symm | refine And.intro ?_ ?_))
        all_goals first | exact (fun i hi => row3_upd _ _ _ _ _ _ _ _ hi) | exact (fun i hi => rowI_upd _ _ _ _ hi)
      · refine ent_tau [0, 1, 2, 3, 4, 9, 10] ⟨?_, ?_, rfl⟩
        all_goals (repeat' (first | exact trivial | exact rfl | exact fun _ _ => rfl | exact congrArg (SV.int .i64) (Int.natCast_succ _).symm | refine And.intro ?_ ?_))
        all_goals first | exact (fun i hi => row3_upd _ _ _ _ _ _ _ _ hi) | exact (fun i hi => rowI_upd _ _ _ _ hi)
      · refine ent_tau [0, 1, 2, 3, 4, 9, 10] ⟨?_, ?_, rfl⟩
        all_goals (repeat' (first | exact trivial | exact rfl | exact fun _ _ => rfl | exact congrArg (SV.int .i64) (Int.natCast_succ _).symm | refine And.intro ?_ ?_))
        all_goals first | exact (fun i hi => row3_upd _ _ _ _ _ _ _ _ hi) | exact (fun i hi => rowI_upd _ _ _ _ hi)
      · refine ent_tau [0, 1, 2, 3, 4, 8, 10] ⟨?_, ?_, rfl⟩
        all_goals (repeat' (first | exact trivial | exact rfl | exact fun _ _ => rfl | exact congrArg (SV.int .i64) (Int.natCast_succ _).symm | refine And.intro ?_ ?_))
        all_goals first | exact (fun i hi => row3_upd _ _ _ _ _ _ _ _ hi) | exact (fun i hi => rowI_upd _ _ _ _ hi)
      · refine ent_tau [0, 1, 2, 3, 4, 9, 10] ⟨?_, ?_, rfl⟩
        all_goals (repeat' (first | exact trivial | exact rfl | exact fun _ _ => rfl | exact congrArg (SV.int .i64) (Int.natCast_succ _).symm | refine And.intro ?_ ?_))
        all_goals first | exact (fun i hi => row3_upd _ _ _ _ _ _ _ _ hi) | exact (fun i hi => rowI_upd _ _ _ _ hi)
      · refine ent_tau [0, 1, 2, 3, 4, 9, 10] ⟨?_, ?_, rfl⟩
        all_goals (repeat' (first | exact trivial | exact rfl | exact fun _ _ => rfl | exact congrArg (SV.int .i64) (Int.natCast_succ _).symm | refine And.intro ?_ ?_))
        all_goals first | exact (fun i hi => row3_upd _ _ _ _ _ _ _ _ hi) | exact (fun i hi => rowI_upd _ _ _ _ hi)
      · refine ent_tau [0, 1, 2, 3, 4, 8, 10] ⟨?_, ?_, rfl⟩
        all_goals (repeat' (first | exact trivial | exact rfl | exact fun _ _ => rfl | exact congrArg (SV.int .i64) (Int.natCast_succ _).symm | refine And.intro ?_ ?_))
        all_goals first | exact (fun i hi => row3_upd _ _ _ _ _ _ _ _ hi) | exact (fun i hi => rowI_upd _ _ _ _ hi)
      · refine ent_tau [0, 1, 2, 3, 4, 9, 10] ⟨?_, ?_, rfl⟩
        all_goals (repeat' (first | exact trivial | exact rfl | exact fun _ _ => rfl | exact congrArg (SV.int .i64) (Int.natCast_succ _).symm | refine And.intro ?_ ?_))
        all_goals first | exact (fun i hi => row3_upd _ _ _ _ _ _ _ _ hi) | exact (fun i hi => rowI_upd _ _ _ _ hi)
      · refine ent_tau [0, 1, 2, 3, 4, 9, 10] ⟨?_, ?_, rfl⟩
        all_goals (repeat' (first | exact trivial | exact rfl | exact fun _ _ => rfl | exact congrArg (SV.int .i64) (Int.natCast_succ _).symm | refine And.intro ?_ ?_))
        all_goals first | exact (fun i hi => row3_upd _ _ _ _ _ _ _ _ hi) | exact (fun i hi => rowI_upd _ _ _ _ hi)
      · refine ent_tau [0, 1, 2, 3, 4, 9, 10] ⟨?_, ?_, rfl⟩
        all_goals (repeat' (first | exact trivial | exact rfl | exact fun _ _ => rfl | exact congrArg (SV.int .i64) (Int.natCast_succ _).symm | refine And.intro ?_ ?_))
        all_goals first | exact (fun i hi => row3_upd _ _ _ _ _ _ _ _ hi) | exact (fun i hi => rowI_upd _ _ _ _ hi)
      · refine ent_tau [0, 1, 2, 3, 4, 9, 10] ⟨?_, ?_, rfl⟩
        all_goals (repeat' (first | exact trivial | exact rfl | exact fun _ _ => rfl | exact congrArg (SV.int .i64) (Int.natCast_succ _).symm | refine And.intro ?_ ?_))
        all_goals first | exact (fun i hi => row3_upd _ _ _ _ _ _ _ _ hi) | exact (fun i hi => rowI_upd _ _ _ _ hi)
      · refine ent_tau [0, 1, 2, 3, 4, 9, 10] ⟨?_, ?_, rfl⟩
        all_goals (repeat' (first | exact trivial | exact rfl | exact fun _ _ => rfl | exact congrArg (SV.int .i64) (Int.natCast_succ _).symm | refine And.intro ?_ ?_))
        all_goals first | exact (fun i hi => row3_upd _ _ _ _ _ _ _ _ hi) | exact (fun i hi => rowI_upd _ _ _ _ hi)
      · refine ent_tau [0, 1, 2, 3, 4, 9, 10] ⟨?_, ?_, rfl⟩
        all_goals (repeat' (first | exact trivial | exact rfl | exact fun _ _ => rfl | exact congrArg (SV.int .i64) (Int.natCast_succ _).symm | refine And.intro ?_ ?_))
        all_goals first | exact (fun i hi => row3_upd _ _ _ _ _ _ _ _ hi) | exact (fun i hi => rowI_upd _ _ _ _ hi)
      · refine ent_tau [0, 1, 2, 3, 4, 9, 10] ⟨?_, ?_, rfl⟩
        all_goals (repeat' (first | exact trivial | exact rfl | exact fun _ _ => rfl | exact congrArg (SV.int .i64) (Int.natCast_succ _).symm | refine And.intro ?_ ?_))
        all_goals first | exact (fun i hi => row3_upd _ _ _ _ _ _ _ _ hi) | exact (fun i hi => rowI_upd _ _ _ _ hi)
    · have hN : k + 1 = N := by
        have := of_decide_eq_false hcc
        omega
      (repeat' (first | exact trivial | exact fun _ => rfl | exact rfl | refine And.intro ?_ ?_))
      refine CodeP.pre ?_ (seg28b b n cap by' hby hn c2 ⟨by omega, by omega⟩ (wm (k + 1) mi mlo mhi cM) h (wm_ok S (by omega) (by omega) cM) ch hcap'.1 hcap'.2)
      exact ent_tau [0, 1, 2, 3, 4, 5, 6] ⟨by (repeat' (first | exact trivial | exact rfl | exact fun _ _ => rfl | exact Or.inl rfl | refine And.intro ?_ ?_)), by (repeat' (first | exact trivial | exact rfl | exact congrArg (SV.int .i64) (Int.natCast_succ _).symm | refine And.intro ?_ ?_)), rfl⟩
end Go.Proofs.YtipbempkngfdbaaDoor
/-
  Contract: dipworkslaw01.TideTrue.
-/
namespace Go.Proofs.YtipbempkngfdbaaDoor
open Go Go.Sy
set_option linter.unusedSimpArgs false
set_option maxRecDepth 100000
set_option maxHeartbeats 4000000
attribute [local irreducible] CallP CodeP Ent YieldP
set_option maxHeartbeats 16000000

theorem t27 (b : Bool) (n cap : Nat) (by' : Nat → Int) : CallP Tryd.prog 27 [.osl b 0 1 n cap] [some (.roa 1 n fun k => [.int .u16 (by' k)])] (Ret (.fn (.func 81) [] [.ptr 1 0, .ptr 2 0]) [some (.roa 1 n fun k => [.int .u16 (by' k)]), some (.cells [.int .i64 0]), some (.cells [.osl b 0 1 n cap])]) := by
  refine callR (E := E) E_ok Tryd.func27 rfl ?_
  (repeat' (first | exact trivial | exact fun _ => rfl | exact rfl | refine And.intro ?_ ?_))
  exact ent_tau [0, 2, 1] ⟨by (repeat' (first | exact trivial | exact rfl | exact fun _ _ => rfl | exact Or.inl rfl | refine And.intro ?_ ?_)), by (repeat' (first | exact trivial | exact rfl | exact congrArg (SV.int .i64) (Int.natCast_succ _).symm | refine And.intro ?_ ?_)), rfl⟩
theorem t6 (b : Bool) (n cap : Nat) (by' : Nat → Int) (hby : ∀ k, 0 ≤ by' k ∧ by' k ≤ 65535) (hn : n ≤ 9223372036854775807) : CallP Tryd.prog 6 [.osl b 0 1 n cap] (H60 n by') (Ret (.bool true) (H60 n by')) := by
  refine callRK (E := E) E_ok 3 Tryd.func6 rfl ?_
  refine And.intro ?_ ?_
  · (repeat' (first | exact trivial | exact fun _ => rfl | exact rfl | refine And.intro ?_ ?_))
  refine (t27 b n cap by').use [0] ?_ (by (repeat' (first | exact trivial | exact rfl | exact fun _ _ => rfl | exact Or.inl rfl | refine And.intro ?_ ?_))) rfl
  refine And.intro trivial ?_
  refine CallP.frameH (t28 b n cap by' hby hn 0 ⟨by decide, by decide⟩) [3, 4, 0] (by (repeat' (first | exact trivial | exact rfl | exact fun _ _ => rfl | exact Or.inl rfl | refine And.intro ?_ ?_))) rfl ?_
  rintro ce h' ⟨t, h, s, ch, cs, c, M, hc, hM, hS, h1, h2, h3, h4, (⟨hL, hbL, hcL, rfl, rfl⟩ | ⟨hL, hbL, h5, rfl, rfl⟩)⟩
  · refine ⟨rfl, ?_⟩
    have S := seg6b b n cap by' c t h s ch cs M hby hn ⟨by omega, by omega⟩
    unfold H6t at S
    rw [hM, hS, hbL, hL, hcL] at S
    (repeat' (first | exact trivial | exact fun _ => rfl | exact rfl | refine And.intro ?_ ?_))
    refine CodeP.pre ?_ S
    refine Ent.trans (t := ⟨mkT [] [(2, .bool false), (3, .fn (.func 81) [] [.ptr 3 0, .ptr 4 0]), (4, .ptr 9 0), (5, .osl true 7 1 t.nM ch), (6, .osl true 8 1 t.nS cs)] 0 (List.replicate 367 none), [some (.roa 1 n fun k => [.int .u16 (by' k)]), some (.glob 0 [.int .i64 0, .int .i64 1, .int .i64 3, .int .i64 6, .int .i64 9, .int .i64 11, .int .i64 12]), some db, some (.cells [.int .i64 c]), some (.cells [.osl b 0 1 n cap]), some (.roa 3 t.nM (row3 t.mi t.mlo t.mhi)), some (.roa 2 t.nS (row2 t.slo t.shi)), some (.roa 1 t.nM (rowI h)), some (.roa 1 t.nS (rowI s)), some (.cells [.osl true 5 3 t.nM t.cM, .osl true 6 2 t.nS t.cS, .osl false 9 4 0 0])], []⟩) ?_ ?_
    · exact ent_tau [0, 1, 2, 3, 4, 5, 6, 7, 8, 9] ⟨by (repeat' (first | exact trivial | exact rfl | exact fun _ _ => rfl | exact Or.inl rfl | refine And.intro ?_ ?_)), by (repeat' (first | exact trivial | exact rfl | exact congrArg (SV.int .i64) (Int.natCast_succ _).symm | refine And.intro ?_ ?_)), rfl⟩
    refine Ent.trans (entCells (i := 9) (cs' := [.osl true 5 3 t.nM t.cM, .osl true 6 2 t.nS t.cS, .osl false 10 4 0 0]) rfl (fun η => by simp [denL, den])) ?_
    refine Ent.trans (entAlias (i := 5) rfl 4 (row4 t.lp t.lm t.llo t.lhi)) ?_
    exact ent_tau [0, 1, 2, 3, 4, 5, 6, 10, 7, 8, 9] ⟨by (repeat' (first | exact trivial | exact rfl | exact fun _ _ => rfl | exact Or.inl rfl | refine And.intro ?_ ?_)), by (repeat' (first | exact trivial | exact rfl | exact congrArg (SV.int .i64) (Int.natCast_succ _).symm | refine And.intro ?_ ?_)), rfl⟩
  · refine ⟨rfl, ?_⟩
    have S := seg6b b n cap by' c t h s ch cs M hby hn ⟨by omega, by omega⟩
    unfold H6t at S
    rw [hM, hS, hbL] at S
    (repeat' (first | exact trivial | exact fun _ => rfl | exact rfl | refine And.intro ?_ ?_))
    refine CodeP.pre ?_ S
    exact ent_tau [0, 1, 2, 3, 4, 5, 6, 9, 7, 8, 10] ⟨by (repeat' (first | exact trivial | exact rfl | exact fun _ _ => rfl | exact Or.inl rfl | refine And.intro ?_ ?_)), by (repeat' (first | exact trivial | exact rfl | exact congrArg (SV.int .i64) (Int.natCast_succ _).symm | refine And.intro ?_ ?_)), rfl⟩
end Go.Proofs.YtipbempkngfdbaaDoor
/-
  A slice of small numbers that is handed to a statement, as a row that is only read.
-/
namespace Go.Sy
open Go Go.ChangeShapes Go.WideShapes Go.ChangeAt Go.RowKit

def cellU (W : World) (a : Nat × Nat) (k : Nat) : Int :=
  match W.cell? ⟨a.1, a.2 + k, none⟩ with
  | some (.int .u16 n) => if 0 ≤ n ∧ n ≤ 65535 then n else 0
  | _ => 0
theorem cellU_ok (W : World) (a : Nat × Nat) (k : Nat) : 0 ≤ cellU W a k ∧ cellU W a k ≤ 65535 := by
  unfold cellU
  split
  · split
    · assumption
    · omega
  · omega
section
variable {H : Type} {enc : TypeId × Value → H} {P : Program} {w : World} {base : Nat} {sp : Nat → Bool} {held : Bool}
theorem sliceOpenU {t e : TypeId} {v : Value} {d : DataW H} {ps : List MemPlace} {r : Reach} {b0 : Nat} (ht : P.underlying t = some (.slice e)) (he : P.underlying e = some (.int .u16)) (hc1 : P.cellsOf e = 1)
    (hval : Cell.okWide P w r b0 t v) {fuel : Nat} (h : DataW.trod enc P w base sp held fuel t [v] = some (d, ps)) :
    v = .slice none 0 0 ∨ ∃ (a : Nat × Nat) (n c : Nat), v = .slice (some ⟨a.1, a.2, none⟩) n c ∧ n ≤ c ∧ (c : Int) ≤ 9223372036854775807 ∧ ∃ cs T fz, w.heap[a.1]? = some (.cells cs T fz) ∧
      ∀ k, k < n → cs[a.2 + k]? = some (.int .u16 (cellU w a k)) := by
  rcases DataW.trod_slice ht h with ⟨h1, _⟩ | ⟨a, len, cap, elems, rest, n, rfl, h1, _, _, hlc, _, hel, hat, _, _⟩
  · left
    simpa using h1
  · right
    simp only [List.cons.injEq, and_true] at h1
    subst h1
    have hv : len ≤ cap ∧ (cap : Int) ≤ IntKind.i64.max ∧ w.has P r b0 a e cap := by
      unfold Cell.okWide at hval
      rw [ht] at hval
      unfold Cell.ok at hval
      rw [ht] at hval
      exact hval
    obtain ⟨_, hc2, _, hsp, row, cells, hsh, _⟩ := hv
    unfold World.shape? at hsh
    cases hh : w.heap[a.block]? with
    | none => rw [hh] at hsh; cases hsh
    | some o =>
      rw [hh] at hsh
      cases o with
      | map _ _ | loop _ | chan _ | pending _ _ | view _ _ | number _ | stringIter _ _ | mapIter _ _ _ _ | deferred _ | coro _ | finalizers _ => cases hsh
      | cells cs T fz =>
        obtain ⟨ab, ao, asp⟩ := a
        simp only at hsp hh
        subst hsp
        refine ⟨(ab, ao), len, cap, rfl, hlc, by simpa [IntKind.max, IntKind.signed, IntKind.bits] using hc2, cs, T, fz, hh, fun k hk => ?_⟩
        have h2 := hat k hk
        rw [List.getElem?_eq_getElem (by omega)] at h2
        obtain ⟨ys, h3, h4⟩ := Option.bind_eq_some_iff.1 h2
        rw [hc1] at h3
        obtain ⟨z, rfl, _, hw⟩ := DataW.trod_int he h4
        have hz : 0 ≤ z ∧ z ≤ 65535 := by simpa [Lit.wf, IntKind.min, IntKind.max, IntKind.signed, IntKind.bits] using hw
        unfold World.cells? at h3
        split at h3
        · obtain ⟨_, h6⟩ := mapM_get h3
          have h7 := h6 0 0 (by simp)
          have e1 : w.cell? ⟨ab, ao + k, none⟩ = some (.int .u16 z) := by
            simpa [addr_add, hc1] using h7
          have e2 : cellU w (ab, ao) k = z := by
            unfold cellU
            rw [e1]
            simp only
            rw [if_pos hz]
          rw [e2]
          simpa [World.cell?, hh] using e1
        · cases h3
end
end Go.Sy
namespace Go.Proofs.YtipbempkngfdbaaDoor
open Go Go.Sy Go.ChangeShapes Go.WideShapes Go.ChangeAt Go.RowKit
set_option maxRecDepth 100000
section
variable {H : Type} {enc : TypeId × Value → H} {w : World} {base : Nat} {sp : Nat → Bool} {held : Bool}
/-- The numbers that an argument is. -/
structure NumsIn (w : World) (v : Value) (b : Bool) (n c : Nat) (f : Nat → Int) (a0 : Nat × Nat) : Prop where
  ok : ∀ k, 0 ≤ f k ∧ f k ≤ 65535
  hn : n ≤ 9223372036854775807
  den : ∀ η : Nam, η 0 = some a0 → den η (.osl b 0 1 n c) = some v
  m : ∀ (η : Nam) F, (SObj.roa 1 n fun k => [.int .u16 (f k)]).holds η a0 F w
theorem numsOpen {t e : TypeId} {v : Value} {d : DataW H} {ps : List MemPlace} {r : Reach} {b0 : Nat} (ht : Tryd.prog.underlying t = some (.slice e)) (he : Tryd.prog.underlying e = some (.int .u16)) (hc1 : Tryd.prog.cellsOf e = 1) (hct : Tryd.prog.cellsOf t = 1)
    (h0 : ∃ cs T fz, w.heap[0]? = some (.cells cs T fz)) (hval : Value.okWide Tryd.prog w r b0 t v) (h : DataW.Trod enc Tryd.prog w base sp held t v d ps) : ∃ b n c f a0, NumsIn w v b n c f a0 := by
  unfold Value.okWide at hval
  rw [ht] at hval
  obtain ⟨fuel, h⟩ := h
  have hval : Cell.okWide Tryd.prog w r b0 t v := hval
  have e1 : v.cells.toList = [v] := by
    have hq := hval
    unfold Cell.okWide at hq
    rw [ht] at hq
    unfold Cell.ok at hq
    rw [ht] at hq
    cases v <;> first | rfl | exact hq.elim
  rw [e1] at h
  rcases sliceOpenU ht he hc1 hval h with rfl | ⟨a, n, c, rfl, h3, h4, cs, T, fz, h1, h2⟩
  · obtain ⟨cs, T, fz, h1⟩ := h0
    exact ⟨false, 0, 0, fun _ => 0, (0, 0), fun _ => ⟨Int.le_refl _, by decide⟩, Nat.zero_le _, fun η _ => by simp [den], fun η F => ⟨cs, T, fz, h1, fun k hk => absurd hk (Nat.not_lt_zero k)⟩⟩
  · refine ⟨true, n, c, fun k => cellU w a k, a, fun k => cellU_ok w a k, by omega, fun η hη => by simp [den, hη], fun η F => ⟨cs, T, fz, h1, fun k hk => ⟨_, rfl, rfl, fun j v hj => ?_⟩⟩⟩
    match j, hj with
    | 0, hj => cases hj; simpa using h2 k hk
end
/-- A world that holds the numbers, and both tables. -/
theorem satH60 {w : World} {v : Value} {b : Bool} {n c : Nat} {f : Nat → Int} {a0 : Nat × Nat} (h : NumsIn w v b n c f a0) (hL : laidMetH Tryd.prog Rows.tideNamesRow.laid w) :
    Sat (fun j => [a0, ((0 : Nat), (0 : Nat)), (1, 0)][j]?) (fun _ _ => False) (H60 n f) w (fun _ => False) w := by
  refine satRo _ rfl ?_ ?_
  · intro i x hx
    match i, hx with
    | 0, hx => cases hx; exact ⟨_, rfl, rfl⟩
    | 1, hx => cases hx; exact ⟨_, rfl, rfl⟩
    | 2, hx => cases hx; exact ⟨_, rfl, rfl⟩
  · intro i o a ho ha
    match i, ho, ha with
    | 0, ho, ha => cases ho; cases ha; exact h.m _ _
    | 1, ho, ha => cases ho; cases ha; exact glob_holds (tabDone hL) gDone
    | 2, ho, ha => cases ho; cases ha; exact glob_holds (tabDb hL) gDb
end Go.Proofs.YtipbempkngfdbaaDoor
/-
  Everything that the card of TideTrue needs.
-/
