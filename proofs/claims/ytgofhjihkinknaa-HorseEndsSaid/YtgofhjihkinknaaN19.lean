/-
  Parts: Ph.
-/
import Derived.Test.YtgofhjihkinknaaN18
set_option linter.unusedVariables false
/-
  Contracts: when each move begins, by a plan.
-/
namespace Go.Proofs.Ytgofhjihkinknaa
open Go Go.Sy Kuhn
set_option linter.unusedSimpArgs false
set_option maxRecDepth 100000
set_option maxHeartbeats 4000000
attribute [local irreducible] CallP CodeP Ent YieldP
attribute [local irreducible] HD.ch maskO

def B59 (h : HD) (pl : PD) : SHeap := HD.H h ++ [some (.roa 1 pl.n (PD.F pl)), some (.cells (bc h))]
/-- Minutes at which a horse can be there. -/
def thH (h : HD) (s : Bool) : Int → Nat → Nat → Int := fun b i k => h.there s b i k
def T59 (h : HD) (pl : PD) (s : Bool) : Nat → Int := tmS h.at' pl.p (thH h s) (srtF h.at' h.n) h.n
theorem app_row (h : HD) (k : Nat) : ∀ i, i < k + 1 + 1 → selL (decide (i < k + 1)) (rowT h id i) (getOf 5 (splice (repL 1 [SV.int .i64 0, SV.int .i64 0, SV.int .i64 0, SV.int .i64 0, SV.int .i64 0]) (0 * 5)
    [.int .i64 (h.at' (0 + ((k + 1 : Nat) : Int).toNat)), .int .i64 (h.pl (0 + ((k + 1 : Nat) : Int).toNat)), .int .i64 (h.lo (0 + ((k + 1 : Nat) : Int).toNat)), .int .i64 (h.hi (0 + ((k + 1 : Nat) : Int).toNat)), .int .i64 ((k + 1 : Nat) : Int)]) (0 + (i - (k + 1)))) = rowT h id i := by
  intro i hi
  by_cases c : i < k + 1
  · rw [decide_eq_true c, selL_true]
  · have e : i = k + 1 := by omega
    subst e
    rw [decide_eq_false c, selL_false, Nat.sub_self, z1]
    rfl
theorem tmS_val (K p : Nat → Int) (th : Int → Nat → Nat → Int) (n : Nat) (i : Nat) (hi : i < n) : tmS K p th (srtF K n) n (srtF K n i) = match lastI p (srtF K n) i (p (srtF K n i)) with
    | none => K (srtF K n i)
    | some i' => max (K (srtF K n i)) (th (tmS K p th (srtF K n) n (srtF K n i')) (srtF K n i') (srtF K n i)) := by
  obtain ⟨h1, _, h3⟩ := srtF_ok K n
  obtain ⟨o, eo⟩ : ∃ o, o = srtF K n := ⟨_, rfl⟩
  rw [← eo] at h1 h3 ⊢
  have inj : ∀ i i', i < i' → i' < n → o i' ≠ o i := fun i i' h h' e => by
    have := h1 i i' h h'
    rw [e] at this
    exact befo_irr this
  rw [tmS_keep hi fun i' a b => inj i i' a b, tmS_succ, if_pos rfl]
  rcases lastI_ok p o (p (o i)) i with ⟨a, _⟩ | ⟨i', a, b, _, _⟩
  · rw [a]
  · rw [a]
    simp only
    rw [tmS_keep b fun i2 c d => inj i' i2 c (by omega), tmS_keep (j := n) (i := i') (by omega) fun i2 c d => inj i' i2 c d]
theorem T59_val {h : HD} {pl : PD} {s : Bool} {i : Nat} (hi : i < h.n) : T59 h pl s (srtF h.at' h.n i) = match lastI pl.p (srtF h.at' h.n) i (pl.p (srtF h.at' h.n i)) with
    | none => h.at' (srtF h.at' h.n i)
    | some i' => max (h.at' (srtF h.at' h.n i)) (h.there s (T59 h pl s (srtF h.at' h.n i')) (srtF h.at' h.n i') (srtF h.at' h.n i)) := tmS_val _ _ _ _ i hi
theorem srt_lt {h : HD} {i : Nat} (hi : i < h.n) : srtF h.at' h.n i < h.n := ((srtF_ok h.at' h.n).2.2 _).1 ⟨i, hi, rfl⟩
theorem srt_inj {h : HD} {i i' : Nat} (hi : i < i') (hi' : i' < h.n) : srtF h.at' h.n i ≠ srtF h.at' h.n i' := fun e => by
  have := (srtF_ok h.at' h.n).1 i i' hi hi'
  rw [e] at this
  exact befo_irr this
theorem T59_rng {h : HD} (hv : h.Valid) {pl : PD} {s : Bool} : ∀ (m i : Nat), i < m → i < h.n → 0 ≤ T59 h pl s (srtF h.at' h.n i) ∧ T59 h pl s (srtF h.at' h.n i) ≤ 200 + 110 * i
  | 0, i, h, _ => by omega
  | m + 1, i, hm, hi => by
    rw [T59_val hi]
    have hat := (hv.2.2 _ (srt_lt hi)).1
    rcases lastI_ok pl.p (srtF h.at' h.n) (pl.p (srtF h.at' h.n i)) i with ⟨a, _⟩ | ⟨i', a, b, _, _⟩
    · rw [a]
      simp only
      omega
    · rw [a]
      simp only
      have ih := T59_rng hv (pl := pl) (s := s) m i' (by omega) (by omega)
      have th := HD.there_le hv s (T59 h pl s (srtF h.at' h.n i')) (srt_lt (show i' < h.n by omega)) (srt_lt hi)
      omega
theorem last_keep {h : HD} {p : Nat → Int} {o : Nat → Nat} {j : Nat} {M : GL} (hM : ∀ x : Int, (gget M [x]).map (·.2) = (lastI p o j x).map fun i => turnL h (o i)) (x : Int) :
    (gget (gset M [p (o j)] (turnL h (o j))) [x]).map (·.2) = (lastI p o (j + 1) x).map fun i => turnL h (o i) := by
  rw [gget_gset, hM]
  by_cases c : p (o j) = x
  · rw [if_pos (by rw [c]), lastI, if_pos c]
    rfl
  · rw [if_neg (fun q => c ((List.cons.inj q).1.symm)), lastI, if_neg c]
theorem t59 (h : HD) (hv : h.Valid) (pl : PD) (hpl : pok h pl = true) (s : Bool) : CallP Try.prog 59 [HD.A h, .osl pl.b 1 1 pl.n pl.cap, tr s] (HD.H h ++ [some (.roa 1 pl.n (PD.F pl))])
    (Ret (.map 2) (HD.H h ++ [some (.roa 1 pl.n (PD.F pl)), some (.gmap g94 (outM h (srtF h.at' h.n) (T59 h pl s) h.n))])) := by
  have hn := hv.2.1
  refine callR (E := E) E_ok Try.func59 rfl ?_
  (repeat' (first | exact trivial | exact fun _ => rfl | exact rfl | refine And.intro ?_ ?_))
  refine loopP E_ok [1, 2, 3, 19, 20] (fun g : Nat × Nat => match g.1 with | 0 => [(7, .snil), (21, .int .i64 0)] | k + 1 => [(7, .slice 3 5 0 (k + 1) g.2), (21, .int .i64 (k + 1 : Nat))])
    (fun g _ => match g.1 with | 0 => B59 h pl | k + 1 => B59 h pl ++ [some (.arr 5 (k + 1) g.2 (rowT h id))]) (fun g => g.1 ≤ h.n ∧ (0 < g.1 → g.1 ≤ g.2 ∧ g.2 ≤ 9223372036854775807)) (fun g => h.n - g.1) (0, 0) ⟨Nat.zero_le _, fun h => absurd h (Nat.lt_irrefl 0)⟩ ?_ ?_
  · exact ent_tau [0, 1, 2] ⟨by (repeat' (first | exact trivial | exact rfl | exact fun _ _ => rfl | exact fun _ _ _ _ => rfl | exact Or.inl rfl | exact Or.inr rfl | refine And.intro ?_ ?_)), by (repeat' (first | exact trivial | exact rfl | exact congrArg (SV.int .i64) (Int.natCast_succ _).symm | exact congrArg (SV.int .u64) (Int.natCast_succ _).symm | refine And.intro ?_ ?_)), rfl⟩
  rintro ⟨k, cap⟩ ⟨hk, hcap⟩
  simp only at hk hcap
  cases k with
  | zero =>
    refine And.intro ?_ (And.intro (fun hc => ?_) (fun hc => ?_))
    · (repeat' (first | exact trivial | exact fun _ => rfl | exact rfl | refine And.intro ?_ ?_))
    · have hlt : 0 < h.n := by
        have := of_decide_eq_true hc
        omega
      (repeat' (first | exact trivial | exact fun _ => rfl | exact rfl | refine And.intro ?_ ?_))
      all_goals first | (first | omega | exact u0 (by omega) | exact u1 (by omega) | exact u1 ⟨by omega, by omega⟩ | exact un (by omega) | exact fun hh => hh | exact fun hh => absurd hh (by decide) | exact fun hh => congrArg not hh | exact fun hh => Bool.noConfusion (show true = false from hh) | exact fun hh => Bool.noConfusion (show false = true from hh)) | decide | skip
      intro c5 h51 h52
      (repeat' (first | exact trivial | exact fun _ => rfl | exact rfl | refine And.intro ?_ ?_))
      all_goals first | (first | omega | exact u0 (by omega) | exact u1 (by omega) | exact u1 ⟨by omega, by omega⟩ | exact un (by omega) | exact fun hh => hh | exact fun hh => absurd hh (by decide) | exact fun hh => congrArg not hh | exact fun hh => Bool.noConfusion (show true = false from hh) | exact fun hh => Bool.noConfusion (show false = true from hh)) | skip
      refine ⟨(0 + 1, c5), ⟨hlt, fun _ => ⟨h51, h52⟩⟩, by simp only; omega, ?_⟩
      refine ent_tau [0, 1, 2, 5] ⟨?_, by (repeat' (first | exact trivial | exact rfl | exact congrArg (SV.int .i64) (Int.natCast_succ _).symm | exact congrArg (SV.int .u64) (Int.natCast_succ _).symm | refine And.intro ?_ ?_)), rfl⟩
      (repeat' (first | exact trivial | exact rfl | exact fun _ _ => rfl | exact fun _ _ _ _ => rfl | exact Or.inl rfl | exact Or.inr rfl | refine And.intro ?_ ?_))
      exact fun i hi => by
        have h0 : i = 0 := Nat.lt_one_iff.1 hi
        subst h0
        rfl
    · have h0 : h.n = 0 := by
        have := of_decide_eq_false hc
        omega
      have e0 : outM h (srtF h.at' h.n) (T59 h pl s) h.n = [] := by
        rw [h0]
        rfl
      rw [e0]
      (repeat' (first | exact trivial | exact fun _ => rfl | exact rfl | refine And.intro ?_ ?_))
      refine t87n.use [] ?_ trivial rfl
      (repeat' (first | exact trivial | exact fun _ => rfl | exact rfl | refine And.intro ?_ ?_))
      refine loopP E_ok [10, 11, 37, 38] (fun _ : Unit => [(39, .int .i64 0)]) (fun _ H => H) (fun _ => True) (fun _ => 0) () trivial ?_ ?_
      · exact ent_tau [0, 1, 2, 3, 4] ⟨by (repeat' (first | exact trivial | exact rfl | exact fun _ _ => rfl | exact fun _ _ _ _ => rfl | exact Or.inl rfl | exact Or.inr rfl | refine And.intro ?_ ?_)), by (repeat' (first | exact trivial | exact rfl | exact congrArg (SV.int .i64) (Int.natCast_succ _).symm | exact congrArg (SV.int .u64) (Int.natCast_succ _).symm | refine And.intro ?_ ?_)), rfl⟩
      rintro _ _
      refine And.intro ?_ (And.intro (fun hc2 => ?_) (fun hc2 => ?_))
      · (repeat' (first | exact trivial | exact fun _ => rfl | exact rfl | refine And.intro ?_ ?_))
      · exfalso
        have := of_decide_eq_true hc2
        omega
      (repeat' (first | exact trivial | exact fun _ => rfl | exact rfl | refine And.intro ?_ ?_))
      exact ent_tau [0, 1, 3] ⟨by (repeat' (first | exact trivial | exact rfl | exact fun _ _ => rfl | exact fun _ _ _ _ => rfl | exact Or.inl rfl | exact Or.inr rfl | refine And.intro ?_ ?_)), by (repeat' (first | exact trivial | exact rfl | exact congrArg (SV.int .i64) (Int.natCast_succ _).symm | exact congrArg (SV.int .u64) (Int.natCast_succ _).symm | refine And.intro ?_ ?_)), rfl⟩
  | succ k =>
    refine And.intro ?_ (And.intro (fun hc => ?_) (fun hc => ?_))
    · (repeat' (first | exact trivial | exact fun _ => rfl | exact rfl | refine And.intro ?_ ?_))
    · have hlt : k + 1 < h.n := by
        have := of_decide_eq_true hc
        omega
      obtain ⟨hc1, hc2⟩ := hcap (by omega)
      (repeat' (first | exact trivial | exact fun _ => rfl | exact rfl | refine And.intro ?_ ?_))
      all_goals first | (first | omega | exact u0 (by omega) | exact u1 (by omega) | exact u1 ⟨by omega, by omega⟩ | exact un (by omega) | exact fun hh => hh | exact fun hh => absurd hh (by decide) | exact fun hh => congrArg not hh | exact fun hh => Bool.noConfusion (show true = false from hh) | exact fun hh => Bool.noConfusion (show false = true from hh)) | decide | (show _ * 40 ≤ 140737488355328; omega) | exact (fun k hk => by have h0 : k = 0 := Nat.lt_one_iff.1 hk; subst h0; rfl) | skip
      intro c5 h51 h52
      (repeat' (first | exact trivial | exact fun _ => rfl | exact rfl | refine And.intro ?_ ?_))
      all_goals first | (first | omega | exact u0 (by omega) | exact u1 (by omega) | exact u1 ⟨by omega, by omega⟩ | exact un (by omega) | exact fun hh => hh | exact fun hh => absurd hh (by decide) | exact fun hh => congrArg not hh | exact fun hh => Bool.noConfusion (show true = false from hh) | exact fun hh => Bool.noConfusion (show false = true from hh)) | skip
      refine ⟨(k + 1 + 1, c5), ⟨hlt, fun _ => ⟨h51, h52⟩⟩, by simp only; omega, ?_⟩
      refine ent_tau [0, 1, 2, 6] ⟨?_, by (repeat' (first | exact trivial | exact rfl | exact congrArg (SV.int .i64) (Int.natCast_succ _).symm | exact congrArg (SV.int .u64) (Int.natCast_succ _).symm | refine And.intro ?_ ?_)), rfl⟩
      (repeat' (first | exact trivial | exact rfl | exact fun _ _ => rfl | exact fun _ _ _ _ => rfl | exact Or.inl rfl | exact Or.inr rfl | refine And.intro ?_ ?_))
      exact app_row h k
    · have hkn : k + 1 = h.n := by
        have := of_decide_eq_false hc
        omega
      obtain ⟨hc1, hc2⟩ := hcap (by omega)
      have c87 := t87 h (k + 1) cap (by omega)
      have hpn : pl.n = h.n := by
        unfold pok at hpl
        simp only [Bool.and_eq_true, decide_eq_true_eq] at hpl
        exact hpl.1
      obtain ⟨o, eo⟩ : ∃ o, o = srtF h.at' h.n := ⟨_, rfl⟩
      obtain ⟨T, eT⟩ : ∃ T, T = T59 h pl s := ⟨_, rfl⟩
      have oval : ∀ i, i < h.n → T (o i) = match lastI pl.p o i (pl.p (o i)) with
        | none => h.at' (o i)
        | some i' => max (h.at' (o i)) (h.there s (T (o i')) (o i') (o i)) := fun i hi => by
        rw [eo, eT]
        exact T59_val hi
      have olt : ∀ i, i < h.n → o i < h.n := fun i hi => by rw [eo]; exact srt_lt hi
      have oinj : ∀ i i', i < i' → i' < h.n → o i ≠ o i' := fun i i' h1 h2 => by rw [eo]; exact srt_inj h1 h2
      have orng : ∀ i, i < h.n → 0 ≤ T (o i) ∧ T (o i) ≤ 200 + 110 * i := fun i hi => by rw [eo, eT]; exact T59_rng hv _ i (Nat.lt_succ_self i) hi
      have esr : srtF h.at' (k + 1) = o := by rw [eo, hkn]
      rw [esr] at c87
      rw [← eo, ← eT]
      have hci : ((k + 1 : Nat) : Int) = (h.n : Nat) := by rw [hkn]
      (repeat' (first | exact trivial | exact fun _ => rfl | exact rfl | refine And.intro ?_ ?_))
      refine c87.use [3] ?_ (by (repeat' (first | exact trivial | exact rfl | exact fun _ _ => rfl | exact fun _ _ _ _ => rfl | exact Or.inl rfl | exact Or.inr rfl | refine And.intro ?_ ?_))) rfl
      (repeat' (first | exact trivial | exact fun _ => rfl | exact rfl | refine And.intro ?_ ?_))
      refine loopP E_ok [1, 2, 3, 10, 11, 37, 38] (fun g : Nat × GL => [(39, .int .i64 g.1)]) (fun g _ => B59 h pl ++ [some (.arr 5 (k + 1) cap (rowT h o)), some (.gmap g94 (outM h o T g.1)), some (.gmap g129 g.2)])
        (fun g => g.1 ≤ h.n ∧ ∀ x : Int, (gget g.2 [x]).map (·.2) = (lastI pl.p o g.1 x).map fun i => turnL h (o i)) (fun g => h.n - g.1) (0, []) ⟨Nat.zero_le _, fun x => rfl⟩ ?_ ?_
      · exact ent_tau [0, 1, 2, 3, 4, 5] ⟨by (repeat' (first | exact trivial | exact rfl | exact fun _ _ => rfl | exact fun _ _ _ _ => rfl | exact Or.inl rfl | exact Or.inr rfl | refine And.intro ?_ ?_)), by (repeat' (first | exact trivial | exact rfl | exact congrArg (SV.int .i64) (Int.natCast_succ _).symm | exact congrArg (SV.int .u64) (Int.natCast_succ _).symm | refine And.intro ?_ ?_)), rfl⟩
      rintro ⟨j, M⟩ ⟨hj, hM⟩
      simp only at hj hM
      have ej := z1 j
      refine And.intro ?_ (And.intro (fun hc3 => ?_) (fun hc3 => ?_))
      · (repeat' (first | exact trivial | exact fun _ => rfl | exact rfl | refine And.intro ?_ ?_))
      · have hjn : j < h.n := by
          have := of_decide_eq_true hc3
          simp only at this
          omega
        have onew : ∀ i, i < j → o i ≠ o (0 + ((j : Nat) : Int).toNat) := fun i hi => by
          rw [ej]
          exact oinj i j hi hjn
        have ojn := olt j hjn
        have eoj := z1 (o (0 + ((j : Nat) : Int).toNat))
        have e0 : pl.p (0 + ((o (0 + ((j : Nat) : Int).toNat) : Nat) : Int).toNat) = pl.p (o j) := by rw [eoj, ej]
        have hM0 := hM (pl.p (0 + ((o (0 + ((j : Nat) : Int).toNat) : Nat) : Int).toNat))
        have ojp : (o (0 + ((j : Nat) : Int).toNat)) < pl.n := by
          rw [ej, hpn]
          exact ojn
        have ojp2 : 0 + ((o (0 + ((j : Nat) : Int).toNat) : Nat) : Int).toNat < pl.n := by omega
        (repeat' (first | exact trivial | exact fun _ => rfl | exact rfl | refine And.intro ?_ ?_))
        all_goals first | (first | omega | exact u0 (by omega) | exact u1 (by omega) | exact u1 ⟨by omega, by omega⟩ | exact un (by omega) | exact fun hh => hh | exact fun hh => absurd hh (by decide) | exact fun hh => congrArg not hh | exact fun hh => Bool.noConfusion (show true = false from hh) | exact fun hh => Bool.noConfusion (show false = true from hh)) | skip
        all_goals first | exact u0 (Int.ofNat_lt.2 ojp) | exact u0 ojp2 | skip
        intro a b c d e hg
        (repeat' (first | exact trivial | exact fun _ => rfl | exact rfl | refine And.intro ?_ ?_))
        all_goals first | (first | omega | exact u0 (by omega) | exact u1 (by omega) | exact u1 ⟨by omega, by omega⟩ | exact un (by omega) | exact fun hh => hh | exact fun hh => absurd hh (by decide) | exact fun hh => congrArg not hh | exact fun hh => Bool.noConfusion (show true = false from hh) | exact fun hh => Bool.noConfusion (show false = true from hh)) | skip
        · intro hx
          replace hx : ghas M [pl.p (0 + ((o (0 + ((j : Nat) : Int).toNat) : Nat) : Int).toNat)] = true := hx
          rw [ghas_of] at hx
          obtain ⟨i', hl⟩ : ∃ i', lastI pl.p o j (pl.p (0 + ((o (0 + ((j : Nat) : Int).toNat) : Nat) : Int).toNat)) = some i' := by
            cases hc : lastI pl.p o j (pl.p (0 + ((o (0 + ((j : Nat) : Int).toNat) : Nat) : Int).toNat)) with
            | none =>
              rw [hc] at hM0
              rw [hM0] at hx
              cases hx
            | some i' => exact ⟨i', rfl⟩
          rw [hl] at hM0
          have hk := hg.trans (gval_of hM0)
          unfold turnL at hk
          simp only [List.cons.injEq, and_true] at hk
          obtain ⟨rfl, rfl, rfl, rfl, rfl⟩ := hk
          have hij : i' < j := by
            rcases lastI_ok pl.p o (pl.p (0 + ((o (0 + ((j : Nat) : Int).toNat) : Nat) : Int).toNat)) j with ⟨q, _⟩ | ⟨i2, q1, q2, _⟩
            · rw [q] at hl
              cases hl
            · rw [q1] at hl
              cases hl
              exact q2
          have hT := orng i' (by omega)
          have hget : (gget (gset (outM h o T j) [h.at' (o (0 + ((j : Nat) : Int).toNat)), h.pl (o (0 + ((j : Nat) : Int).toNat)), h.lo (o (0 + ((j : Nat) : Int).toNat)), h.hi (o (0 + ((j : Nat) : Int).toNat)), ((o (0 + ((j : Nat) : Int).toNat) : Nat) : Int)] [h.at' (o (0 + ((j : Nat) : Int).toNat))]) (turnL h (o i'))).map (·.2) = some [T (o i')] := by
            exact (gget_gset ..).trans ((if_neg (fun q => onew i' hij (turnL_inj q))).trans (outM_get hij))
          refine And.intro trivial ?_
          refine drawP E_ok [2, 6, 7] pl59_16 (by kernel_rfl) ?_
          (repeat' (first | exact trivial | exact fun _ => rfl | exact rfl | refine And.intro ?_ ?_))
          intro v hv1
          have ev : v = T (o i') := (List.cons.inj (hv1.trans (gval_of hget))).1
          subst ev
          (repeat' (first | exact trivial | exact fun _ => rfl | exact rfl | refine And.intro ?_ ?_))
          refine (t81 h hv s _ ⟨hT.1, by omega⟩ _ _ (olt i' (by omega)) (olt (0 + ((j : Nat) : Int).toNat) (by omega))).use [0] ?_ (by (repeat' (first | exact trivial | exact rfl | exact fun _ _ => rfl | exact fun _ _ _ _ => rfl | exact Or.inl rfl | exact Or.inr rfl | refine And.intro ?_ ?_))) rfl
          (repeat' (first | exact trivial | exact fun _ => rfl | exact rfl | refine And.intro ?_ ?_))
          all_goals first | (first | omega | exact u0 (by omega) | exact u1 (by omega) | exact u1 ⟨by omega, by omega⟩ | exact un (by omega) | exact fun hh => hh | exact fun hh => absurd hh (by decide) | exact fun hh => congrArg not hh | exact fun hh => Bool.noConfusion (show true = false from hh) | exact fun hh => Bool.noConfusion (show false = true from hh)) | skip
          have hv1 := oval j hjn
          rw [e0] at hl
          rw [hl] at hv1
          simp only at hv1
          have kmax : ∀ a b : Int, (if b > a then b else a) = max a b := fun a b => by split <;> omega
          have hA : gset (gset (outM h o T j) (turnL h (o (0 + ((j : Nat) : Int).toNat))) [h.at' (o (0 + ((j : Nat) : Int).toNat))]) (turnL h (o (0 + ((j : Nat) : Int).toNat))) [if h.there s (T (o i')) (o i') (o (0 + ((j : Nat) : Int).toNat)) > h.at' (o (0 + ((j : Nat) : Int).toNat)) then h.there s (T (o i')) (o i') (o (0 + ((j : Nat) : Int).toNat)) else h.at' (o (0 + ((j : Nat) : Int).toNat))] = outM h o T (j + 1) := by
            rw [outM_set2 onew, outM_succ, kmax, ej, hv1]
          refine ⟨(j + 1, gset M [pl.p (0 + ((o (0 + ((j : Nat) : Int).toNat) : Nat) : Int).toNat)] (turnL h (o (0 + ((j : Nat) : Int).toNat)))), ⟨hjn, ?_⟩, by simp only; omega, ?_⟩
          · rw [e0, ej]
            exact last_keep hM
          refine ent_tau [0, 1, 2, 3, 4, 5] ⟨?_, by (repeat' (first | exact trivial | exact rfl | exact congrArg (SV.int .i64) (Int.natCast_succ _).symm | exact congrArg (SV.int .u64) (Int.natCast_succ _).symm | refine And.intro ?_ ?_)), rfl⟩
          (repeat' (first | exact trivial | exact rfl | exact fun _ _ => rfl | exact fun _ _ _ _ => rfl | exact Or.inl rfl | exact Or.inr rfl | refine And.intro ?_ ?_))
          exact hA
        · intro hx
          replace hx : ghas M [pl.p (0 + ((o (0 + ((j : Nat) : Int).toNat) : Nat) : Int).toNat)] = false := hx
          rw [ghas_of] at hx
          have hl : lastI pl.p o j (pl.p (0 + ((o (0 + ((j : Nat) : Int).toNat) : Nat) : Int).toNat)) = none := by
            cases hc : lastI pl.p o j (pl.p (0 + ((o (0 + ((j : Nat) : Int).toNat) : Nat) : Int).toNat)) with
            | none => rfl
            | some i' =>
              rw [hM0, hc] at hx
              cases hx
          have hv1 := oval j hjn
          rw [e0] at hl
          rw [hl] at hv1
          have hA : gset (outM h o T j) (turnL h (o (0 + ((j : Nat) : Int).toNat))) [h.at' (o (0 + ((j : Nat) : Int).toNat))] = outM h o T (j + 1) := by
            rw [outM_set onew, outM_succ, ej, hv1]
          (repeat' (first | exact trivial | exact fun _ => rfl | exact rfl | refine And.intro ?_ ?_))
          all_goals first | (first | omega | exact u0 (by omega) | exact u1 (by omega) | exact u1 ⟨by omega, by omega⟩ | exact un (by omega) | exact fun hh => hh | exact fun hh => absurd hh (by decide) | exact fun hh => congrArg not hh | exact fun hh => Bool.noConfusion (show true = false from hh) | exact fun hh => Bool.noConfusion (show false = true from hh)) | skip
          refine ⟨(j + 1, gset M [pl.p (0 + ((o (0 + ((j : Nat) : Int).toNat) : Nat) : Int).toNat)] (turnL h (o (0 + ((j : Nat) : Int).toNat)))), ⟨hjn, ?_⟩, by simp only; omega, ?_⟩
          · rw [e0, ej]
            exact last_keep hM
          refine ent_tau [0, 1, 2, 3, 4, 5] ⟨?_, by (repeat' (first | exact trivial | exact rfl | exact congrArg (SV.int .i64) (Int.natCast_succ _).symm | exact congrArg (SV.int .u64) (Int.natCast_succ _).symm | refine And.intro ?_ ?_)), rfl⟩
          (repeat' (first | exact trivial | exact rfl | exact fun _ _ => rfl | exact fun _ _ _ _ => rfl | exact Or.inl rfl | exact Or.inr rfl | refine And.intro ?_ ?_))
          exact hA
      · have e : j = h.n := by
          have := of_decide_eq_false hc3
          simp only at this
          omega
        subst e
        (repeat' (first | exact trivial | exact fun _ => rfl | exact rfl | refine And.intro ?_ ?_))
        exact ent_tau [0, 1, 4] ⟨by (repeat' (first | exact trivial | exact rfl | exact fun _ _ => rfl | exact fun _ _ _ _ => rfl | exact Or.inl rfl | exact Or.inr rfl | refine And.intro ?_ ?_)), by (repeat' (first | exact trivial | exact rfl | exact congrArg (SV.int .i64) (Int.natCast_succ _).symm | exact congrArg (SV.int .u64) (Int.natCast_succ _).symm | refine And.intro ?_ ?_)), rfl⟩
end Go.Proofs.Ytgofhjihkinknaa
