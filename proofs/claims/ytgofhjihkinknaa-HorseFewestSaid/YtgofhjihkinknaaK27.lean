/-
  Parts: Qg, Qe, Qh, Qi.
-/
import Derived.Test.YtgofhjihkinknaaK26
import Derived.Test.YtgofhjihkinknaaK14
set_option linter.unusedVariables false
/-
  HorseFewest: what comes behind the other plan.
-/
namespace Go.Proofs.Ytgofhjihkinknaa
open Go Go.Sy Kuhn
set_option linter.unusedSimpArgs false
set_option maxRecDepth 100000
set_option maxHeartbeats 4000000
attribute [local irreducible] CallP CodeP Ent YieldP
attribute [local irreducible] HD.ch maskO

noncomputable def T8a (h : HD) (s : Bool) (pl : PD) : Tm := mkT [] [(1, .bool s), (3, .ptr 2 0), (6, .bool false), (7, .int .i64 (h.few s : Nat)), (8, .slice 3 1 0 h.n h.n), (20, .osl pl.b 4 1 pl.n pl.cap)] 0 (List.replicate 187 none)
def H8a (h : HD) (s : Bool) (y pl : PD) : SHeap := HD.H h ++ [some (.roa 1 y.n (BDF y)), some (.cells (bc h)), some (.roa 1 h.n (plF h s)), some (.roa 1 pl.n (PD.F pl))]
theorem seg8a (h : HD) (hv : h.Valid) (s : Bool) (y pl : PD) (hpl : pok h pl = true) (hpn : pl.n = h.n) (hp0 : ∀ i, 0 ≤ pl.p i) : CodeP Try.prog none 2 (sufC Try.f8 11) ⟨T8a h s pl, H8a h s y pl, []⟩ (KRet E Try.f8 2 (.bool true) (HD.H h ++ [some (.roa 1 y.n (BDF y))])) := by
  have hn := hv.2.1
  have hfl := few_le h s
  obtain ⟨b, hb⟩ : ∃ b, rightB h s pl = b := ⟨_, rfl⟩
  have c40 := t40 h pl (by omega) s
  rw [hb] at c40
  refine codeP_XK E_ok 100 ?_
  (repeat' (first | exact trivial | exact fun _ => rfl | exact rfl | refine And.intro ?_ ?_))
  refine c40.use [0, 4] ?_ (by (repeat' (first | exact trivial | exact rfl | exact fun _ _ => rfl | exact fun _ _ _ _ => rfl | exact Or.inl rfl | exact Or.inr rfl | refine And.intro ?_ ?_))) rfl
  clear c40
  cases b with
  | false =>
    (repeat' (first | exact trivial | exact fun _ => rfl | exact rfl | refine And.intro ?_ ?_))
    all_goals first | exact True.intro | omega | exact u1 (lt64 (by omega)) | exact u0 (lt64 (by omega)) | (show under _ _; simp [under, gB, wB]; done) | (show under _ _; simp [under, gB, wB]; omega) | skip
    all_goals intro hx
    all_goals first | exact absurd hx (by decide) | skip
    (repeat' (first | exact trivial | exact fun _ => rfl | exact rfl | refine And.intro ?_ ?_))
    refine t15.use [] ?_ trivial rfl
    (repeat' (first | exact trivial | exact fun _ => rfl | exact rfl | refine And.intro ?_ ?_))
    all_goals first | exact True.intro | omega | exact u1 (lt64 (by omega)) | exact u0 (lt64 (by omega)) | (show under _ _; simp [under, gB, wB]; done) | (show under _ _; simp [under, gB, wB]; omega) | skip
    exact ent_tau [0, 1] ⟨by (repeat' (first | exact trivial | exact rfl | exact fun _ _ => rfl | exact fun _ _ _ _ => rfl | exact Or.inl rfl | exact Or.inr rfl | refine And.intro ?_ ?_)), by (repeat' (first | exact trivial | exact rfl | exact congrArg (SV.int .i64) (Int.natCast_succ _).symm | exact congrArg (SV.int .u64) (Int.natCast_succ _).symm | refine And.intro ?_ ?_)), rfl⟩
  | true =>
    have hR := (rightB_iff hv hpl).1 hb
    have hul := HD.used_le hv hR
    rw [← hpn] at hul
    have hle := HD.usedF_le pl.p pl.n
    have hlex : HD.usedF pl.p pl.n = h.few s → HD.LeX h.n (h.planF s) pl.p := fun e => HD.planF_least hv hR (fun i _ => hp0 i) (by rw [← hpn]; exact e)
    have c41 := t41 pl (by omega)
    obtain ⟨u, hu⟩ : ∃ u, HD.usedF pl.p pl.n = u := ⟨_, rfl⟩
    rw [hu] at c41 hul hle hlex
    (repeat' (first | exact trivial | exact fun _ => rfl | exact rfl | refine And.intro ?_ ?_))
    all_goals first | exact True.intro | omega | exact u1 (lt64 (by omega)) | exact u0 (lt64 (by omega)) | (show under _ _; simp [under, gB, wB]; done) | (show under _ _; simp [under, gB, wB]; omega) | skip
    all_goals intro hx
    all_goals first | exact absurd hx (by decide) | skip
    (repeat' (first | exact trivial | exact fun _ => rfl | exact rfl | refine And.intro ?_ ?_))
    refine c41.use [4] ?_ (by (repeat' (first | exact trivial | exact rfl | exact fun _ _ => rfl | exact fun _ _ _ _ => rfl | exact Or.inl rfl | exact Or.inr rfl | refine And.intro ?_ ?_))) rfl
    clear c41
    (repeat' (first | exact trivial | exact fun _ => rfl | exact rfl | refine And.intro ?_ ?_))
    all_goals first | exact True.intro | omega | exact u1 (lt64 (by omega)) | exact u0 (lt64 (by omega)) | (show under _ _; simp [under, gB, wB]; done) | (show under _ _; simp [under, gB, wB]; omega) | skip
    · intro hx
      exfalso
      have hx2 : decide ((u : Int) < (h.few s : Nat)) = true := hx
      have := of_decide_eq_true hx2
      omega
    intro hx
    (repeat' (first | exact trivial | exact fun _ => rfl | exact rfl | refine And.intro ?_ ?_))
    refine loopP E_ok [3, 6, 7, 8, 20, 21, 155] (fun i : Nat => [(156, .int .i64 i)]) (fun _ H => H) (fun i => i ≤ h.n ∧ (u = h.few s → ∀ k, k < i → h.planF s k = pl.p k)) (fun i => h.n - i) 0 ⟨Nat.zero_le _, fun _ k hk => absurd hk (Nat.not_lt_zero k)⟩ ?_ ?_
    · exact ent_tau [0, 1, 2, 3, 4] ⟨by (repeat' (first | exact trivial | exact rfl | exact fun _ _ => rfl | exact fun _ _ _ _ => rfl | exact Or.inl rfl | exact Or.inr rfl | refine And.intro ?_ ?_)), by (repeat' (first | exact trivial | exact rfl | exact congrArg (SV.int .i64) (Int.natCast_succ _).symm | exact congrArg (SV.int .u64) (Int.natCast_succ _).symm | refine And.intro ?_ ?_)), rfl⟩
    rintro i ⟨hi, hall⟩
    refine And.intro ?_ (And.intro (fun hlt => ?_) (fun hlt => ?_))
    · (repeat' (first | exact trivial | exact fun _ => rfl | exact rfl | refine And.intro ?_ ?_))
    · have hlt' : i < h.n := by
        have := of_decide_eq_true hlt
        omega
      have ei := z1 i
      (repeat' (first | exact trivial | exact fun _ => rfl | exact rfl | refine And.intro ?_ ?_))
      refine drawP E_ok [] pl8_38 (by kernel_rfl) ?_
      (repeat' (first | exact trivial | exact fun _ => rfl | exact rfl | refine And.intro ?_ ?_))
      all_goals first | exact True.intro | omega | exact u1 (lt64 (by omega)) | exact u0 (lt64 (by omega)) | (show under _ _; simp [under, gB, wB]; done) | (show under _ _; simp [under, gB, wB]; omega) | skip
      · intro hx
        simp [ei] at hx
        have hx1 : u = h.few s := Int.ofNat.inj hx.1
        have hlx := hlex hx1 i hlt' (hall hx1)
        have hne : pl.p i ≠ h.planF s i := hx.2
        have hlt39 : (h.plan s).getD (0 + ((i : Nat) : Int).toNat) 0 < pl.p (0 + ((i : Nat) : Int).toNat) := by
          rw [ei]
          show h.planF s i < pl.p i
          omega
        (repeat' (first | exact trivial | exact fun _ => rfl | exact rfl | refine And.intro ?_ ?_))
        refine drawP E_ok [] pl8_39 (by kernel_rfl) ?_
        (repeat' (first | exact trivial | exact fun _ => rfl | exact rfl | refine And.intro ?_ ?_))
        all_goals first | exact True.intro | omega | exact u1 (lt64 (by omega)) | exact u0 (lt64 (by omega)) | (show under _ _; simp [under, gB, wB]; done) | (show under _ _; simp [under, gB, wB]; omega) | skip
        · intro _
          refine t15.use [] ?_ trivial rfl
          (repeat' (first | exact trivial | exact fun _ => rfl | exact rfl | refine And.intro ?_ ?_))
          all_goals first | exact True.intro | omega | exact u1 (lt64 (by omega)) | exact u0 (lt64 (by omega)) | (show under _ _; simp [under, gB, wB]; done) | (show under _ _; simp [under, gB, wB]; omega) | skip
          refine ent_tau [0, 1] ⟨by (repeat' (first | exact trivial | exact rfl | exact fun _ _ => rfl | exact fun _ _ _ _ => rfl | exact Or.inl rfl | exact Or.inr rfl | refine And.intro ?_ ?_)), ⟨rfl, ?_, trivial⟩, rfl⟩
          exact congrArg SV.bool (by rw [decide_eq_true hlt39]; rfl)
        · intro hg
          exfalso
          simp only [gB, wB] at hg
          rw [decide_eq_true hlt39] at hg
          simp at hg
      · intro hx
        simp [ei] at hx
        (repeat' (first | exact trivial | exact fun _ => rfl | exact rfl | refine And.intro ?_ ?_))
        all_goals first | exact True.intro | omega | exact u1 (lt64 (by omega)) | exact u0 (lt64 (by omega)) | (show under _ _; simp [under, gB, wB]; done) | (show under _ _; simp [under, gB, wB]; omega) | skip
        refine ⟨i + 1, ⟨hlt', fun e k hk => ?_⟩, by omega, ?_⟩
        · by_cases c : k = i
          · rw [c]
            exact (hx (congrArg Int.ofNat e)).symm
          · exact hall e k (by omega)
        exact ent_tau [0, 1, 2, 3, 4] ⟨by (repeat' (first | exact trivial | exact rfl | exact fun _ _ => rfl | exact fun _ _ _ _ => rfl | exact Or.inl rfl | exact Or.inr rfl | refine And.intro ?_ ?_)), by (repeat' (first | exact trivial | exact rfl | exact congrArg (SV.int .i64) (Int.natCast_succ _).symm | exact congrArg (SV.int .u64) (Int.natCast_succ _).symm | refine And.intro ?_ ?_)), rfl⟩
    · (repeat' (first | exact trivial | exact fun _ => rfl | exact rfl | refine And.intro ?_ ?_))
      refine t15.use [] ?_ trivial rfl
      (repeat' (first | exact trivial | exact fun _ => rfl | exact rfl | refine And.intro ?_ ?_))
      all_goals first | exact True.intro | omega | exact u1 (lt64 (by omega)) | exact u0 (lt64 (by omega)) | (show under _ _; simp [under, gB, wB]; done) | (show under _ _; simp [under, gB, wB]; omega) | skip
      exact ent_tau [0, 1] ⟨by (repeat' (first | exact trivial | exact rfl | exact fun _ _ => rfl | exact fun _ _ _ _ => rfl | exact Or.inl rfl | exact Or.inr rfl | refine And.intro ?_ ?_)), by (repeat' (first | exact trivial | exact rfl | exact congrArg (SV.int .i64) (Int.natCast_succ _).symm | exact congrArg (SV.int .u64) (Int.natCast_succ _).symm | refine And.intro ?_ ?_)), rfl⟩
end Go.Proofs.Ytgofhjihkinknaa
/-
  Plain law: sets as signed numbers.
-/
namespace Go.Proofs.Ytgofhjihkinknaa
open Go Go.Sy Kuhn
set_option maxRecDepth 100000

theorem wrap64 (x : Nat) (h : x < 2 ^ 63) : IntKind.wrap .i64 (x : Int) = x := wrap_in (k := .i64) ⟨by omega, by omega⟩
theorem and64 {a b : Nat} (ha : a < 2 ^ 63) (hb : b < 2 ^ 64) : bitOp .and .i64 (a : Int) (b : Int) = ((a &&& b : Nat) : Int) := by
  show IntKind.wrap .i64 ((BitVec.ofInt 64 (a : Int) &&& BitVec.ofInt 64 (b : Int)).toNat : Int) = _
  rw [ofInt_nat, ofInt_nat, BitVec.toNat_and, BitVec.toNat_ofNat, BitVec.toNat_ofNat, Nat.mod_eq_of_lt (by omega), Nat.mod_eq_of_lt hb]
  exact wrap64 _ (Nat.lt_of_le_of_lt Nat.and_le_left ha)
theorem has64 {S n : Nat} (hS : S < 2 ^ 63) : decide (bitOp .and .i64 ((S : Int).fdiv (2 ^ n)) 1 = 1) = S.testBit n := by
  have e : (S : Int).fdiv (2 ^ n) = ((S / 2 ^ n : Nat) : Int) := by
    rw [Int.fdiv_eq_ediv_of_nonneg _ (by have := Nat.pow_pos (n := n) (show 0 < 2 by omega); exact_mod_cast Nat.zero_le _)]
    norm_cast
  have h1 : S / 2 ^ n < 2 ^ 63 := Nat.lt_of_le_of_lt (Nat.div_le_self _ _) hS
  have e2 := and64 (a := S / 2 ^ n) (b := 1) h1 (by decide)
  rw [e]
  have e3 : bitOp .and .i64 ((S / 2 ^ n : Nat) : Int) 1 = ((S / 2 ^ n &&& 1 : Nat) : Int) := e2
  rw [e3, Nat.and_one_is_mod, Nat.testBit_eq_decide_div_mod_eq]
  congr 1
  simp only [eq_iff_iff]
  omega
theorem has0 {S n : Nat} (hS : S < 2 ^ 63) : decide (bitOp .and .i64 ((S : Int).fdiv (2 ^ n)) 1 = 0) = !S.testBit n := by
  have e : (S : Int).fdiv (2 ^ n) = ((S / 2 ^ n : Nat) : Int) := by
    rw [Int.fdiv_eq_ediv_of_nonneg _ (by have := Nat.pow_pos (n := n) (show 0 < 2 by omega); exact_mod_cast Nat.zero_le _)]
    norm_cast
  have h1 : S / 2 ^ n < 2 ^ 63 := Nat.lt_of_le_of_lt (Nat.div_le_self _ _) hS
  have e2 := and64 (a := S / 2 ^ n) (b := 1) h1 (by decide)
  rw [e]
  have e3 : bitOp .and .i64 ((S / 2 ^ n : Nat) : Int) 1 = ((S / 2 ^ n &&& 1 : Nat) : Int) := e2
  rw [e3, Nat.and_one_is_mod, Nat.testBit_eq_decide_div_mod_eq]
  by_cases c : S / 2 ^ n % 2 = 1
  · rw [decide_eq_true c, decide_eq_false (by omega)]
    rfl
  · rw [decide_eq_false c, decide_eq_true (by omega)]
    rfl
theorem shr_zero {S n : Nat} (hS : S < 2 ^ n) : (S : Int).fdiv (2 ^ n) = 0 := by
  have e : (S : Int).fdiv (2 ^ n) = ((S / 2 ^ n : Nat) : Int) := by
    rw [Int.fdiv_eq_ediv_of_nonneg _ (by have := Nat.pow_pos (n := n) (show 0 < 2 by omega); exact_mod_cast Nat.zero_le _)]
    norm_cast
  rw [e, Nat.div_eq_of_lt hS]
  rfl
end Go.Proofs.Ytgofhjihkinknaa
/-
  HorseFewest: the plan that is told, and the proof.
-/
namespace Go.Proofs.Ytgofhjihkinknaa
open Go Go.Sy Kuhn
set_option linter.unusedSimpArgs false
set_option maxRecDepth 100000
set_option maxHeartbeats 4000000
attribute [local irreducible] CallP CodeP Ent YieldP
attribute [local irreducible] HD.ch maskO

def H8c (h : HD) (s : Bool) (y : PD) : SHeap := HD.H h ++ [some (.roa 1 y.n (BDF y)), some (.cells (bc h)), some (.roa 1 h.n (plF h s))]
noncomputable def V8c (h : HD) (s : Bool) (y : PD) : List (Nat × SV) := [(1, .bool s), (2, .osl y.b 1 1 y.n y.cap), (3, .ptr 2 0), (6, .bool false), (7, .int .i64 (h.few s : Nat)), (8, .slice 3 1 0 h.n h.n), (10, .int .i64 (prfS h s : Nat))]
noncomputable def T8c (h : HD) (s : Bool) (y : PD) : Tm := mkT [] ((15, .int .i64 (canN s)) :: V8c h s y) 0 (List.replicate 187 none)
noncomputable def T8b (h : HD) (s : Bool) (y : PD) : Tm := mkT [] (V8c h s y) 0 (List.replicate 187 none)
theorem prf_fv {h : HD} (hv : h.Valid) {s : Bool} {i k : Nat} (hi : i < h.n) (hk : k < h.n) (bi : (prfS h s).testBit i = true) (bk : (prfS h s).testBit k = true) : fv h i k < canN s := by
  by_cases c : i = k
  · subst c
    exact (fv_lt hv hi).2 (HD.can_irr hv s hi)
  · exact ((apart_fv hv hi hk).2 (prf_alone h hv.2.1 s i k hi hk bi bk c)).1
theorem prf128 {h : HD} (hv : h.Valid) (s : Bool) : prfS h s < 128 := Nat.lt_of_lt_of_le (prf_lt h hv.2.1 s) (Nat.pow_le_pow_right (n := 2) (by omega) hv.2.1)
theorem seg8c (h : HD) (hv : h.Valid) (s : Bool) (y : PD) (hy : BOk y) (hyn : y.n ≤ 9223372036854775807) : CodeP Try.prog none 2 (sufC Try.f8 9) ⟨T8c h s y, H8c h s y, []⟩ (KRet E Try.f8 2 (.bool true) (HD.H h ++ [some (.roa 1 y.n (BDF y))])) := by
  have hn := hv.2.1
  refine codeP_XK E_ok 2 ?_
  (repeat' (first | exact trivial | exact fun _ => rfl | exact rfl | refine And.intro ?_ ?_))
  refine loopP E_ok [1, 2, 3, 6, 7, 8, 10, 15, 100] (fun i : Nat => [(101, .int .i64 i)]) (fun _ H => H) (fun i => i ≤ h.n) (fun i => h.n - i) 0 (Nat.zero_le _) ?_ ?_
  · exact ent_tau [0, 1, 2, 3] ⟨by (repeat' (first | exact trivial | exact rfl | exact fun _ _ => rfl | exact fun _ _ _ _ => rfl | exact Or.inl rfl | exact Or.inr rfl | refine And.intro ?_ ?_)), by (repeat' (first | exact trivial | exact rfl | exact congrArg (SV.int .i64) (Int.natCast_succ _).symm | exact congrArg (SV.int .u64) (Int.natCast_succ _).symm | refine And.intro ?_ ?_)), rfl⟩
  rintro i hi
  refine And.intro ?_ (And.intro (fun hlt => ?_) (fun hlt => ?_))
  · (repeat' (first | exact trivial | exact fun _ => rfl | exact rfl | refine And.intro ?_ ?_))
  · have hlt' : i < h.n := by
      have := of_decide_eq_true hlt
      omega
    (repeat' (first | exact trivial | exact fun _ => rfl | exact rfl | refine And.intro ?_ ?_))
    all_goals first | exact True.intro | omega | exact u1 (lt64 (by omega)) | exact u0 (lt64 (by omega)) | (show under _ _; simp [under, gB, wB]; done) | (show under _ _; simp [under, gB, wB]; omega) | skip
    refine loopP E_ok [1, 2, 3, 6, 7, 8, 10, 15, 16, 100, 101, 106] (fun i : Nat => [(107, .int .i64 i)]) (fun _ H => H) (fun i => i ≤ h.n) (fun i => h.n - i) 0 (Nat.zero_le _) ?_ ?_
    · exact ent_tau [0, 1, 2, 3] ⟨by (repeat' (first | exact trivial | exact rfl | exact fun _ _ => rfl | exact fun _ _ _ _ => rfl | exact Or.inl rfl | exact Or.inr rfl | refine And.intro ?_ ?_)), by (repeat' (first | exact trivial | exact rfl | exact congrArg (SV.int .i64) (Int.natCast_succ _).symm | exact congrArg (SV.int .u64) (Int.natCast_succ _).symm | refine And.intro ?_ ?_)), rfl⟩
    rintro k hk
    refine And.intro ?_ (And.intro (fun hlk => ?_) (fun hlk => ?_))
    · (repeat' (first | exact trivial | exact fun _ => rfl | exact rfl | refine And.intro ?_ ?_))
    · have hlk' : k < h.n := by
        have := of_decide_eq_true hlk
        omega
      have ci := t16i h hv i k hlt' hlk'
      have hS : prfS h s < 2 ^ 63 := Nat.lt_trans (prf128 hv s) (by decide)
      obtain ⟨n1, e1⟩ : ∃ z, fv h i k = z := ⟨_, rfl⟩
      rw [e1] at ci
      (repeat' (first | exact trivial | exact fun _ => rfl | exact rfl | refine And.intro ?_ ?_))
      refine ci.use [0] ?_ (by (repeat' (first | exact trivial | exact rfl | exact fun _ _ => rfl | exact fun _ _ _ _ => rfl | exact Or.inl rfl | exact Or.inr rfl | refine And.intro ?_ ?_))) rfl
      clear ci
      (repeat' (first | exact trivial | exact fun _ => rfl | exact rfl | refine And.intro ?_ ?_))
      all_goals first | exact True.intro | omega | exact u1 (lt64 (by omega)) | exact u0 (lt64 (by omega)) | (show under _ _; simp [under, gB, wB]; done) | (show under _ _; simp [under, gB, wB]; omega) | skip
      · intro hx
        exfalso
        simp only [Int.toNat_natCast, has64 hS] at hx
        simp at hx
        have := prf_fv hv (s := s) hlt' hlk' hx.1.1 hx.1.2
        omega
      · intro hx
        clear hx
        (repeat' (first | exact trivial | exact fun _ => rfl | exact rfl | refine And.intro ?_ ?_))
        all_goals first | exact True.intro | omega | exact u1 (lt64 (by omega)) | exact u0 (lt64 (by omega)) | (show under _ _; simp [under, gB, wB]; done) | (show under _ _; simp [under, gB, wB]; omega) | skip
        refine ⟨k + 1, hlk', by omega, ?_⟩
        exact ent_tau [0, 1, 2, 3] ⟨by (repeat' (first | exact trivial | exact rfl | exact fun _ _ => rfl | exact fun _ _ _ _ => rfl | exact Or.inl rfl | exact Or.inr rfl | refine And.intro ?_ ?_)), by (repeat' (first | exact trivial | exact rfl | exact congrArg (SV.int .i64) (Int.natCast_succ _).symm | exact congrArg (SV.int .u64) (Int.natCast_succ _).symm | refine And.intro ?_ ?_)), rfl⟩
    · (repeat' (first | exact trivial | exact fun _ => rfl | exact rfl | refine And.intro ?_ ?_))
      all_goals first | exact True.intro | omega | exact u1 (lt64 (by omega)) | exact u0 (lt64 (by omega)) | (show under _ _; simp [under, gB, wB]; done) | (show under _ _; simp [under, gB, wB]; omega) | skip
      refine ⟨i + 1, hlt', by omega, ?_⟩
      exact ent_tau [0, 1, 2, 3] ⟨by (repeat' (first | exact trivial | exact rfl | exact fun _ _ => rfl | exact fun _ _ _ _ => rfl | exact Or.inl rfl | exact Or.inr rfl | refine And.intro ?_ ?_)), by (repeat' (first | exact trivial | exact rfl | exact congrArg (SV.int .i64) (Int.natCast_succ _).symm | exact congrArg (SV.int .u64) (Int.natCast_succ _).symm | refine And.intro ?_ ?_)), rfl⟩
  · (repeat' (first | exact trivial | exact fun _ => rfl | exact rfl | refine And.intro ?_ ?_))
    refine CallP.frameH (t34 h hv y hy hyn) [0, 1] (by (repeat' (first | exact trivial | exact rfl | exact fun _ _ => rfl | exact fun _ _ _ _ => rfl | exact Or.inl rfl | exact Or.inr rfl | refine And.intro ?_ ?_))) rfl ?_
    rintro ce h' (⟨h0, rfl, rfl⟩ | ⟨k, cap, h0, hc1, hc2, rfl, rfl⟩)
    · refine ⟨rfl, ?_⟩
      (repeat' (first | exact trivial | exact fun _ => rfl | exact rfl | refine And.intro ?_ ?_))
      refine CodeP.part (seg8a h hv s y (mkD y 0 false 0) (pok_mk hy h0.symm false 0) h0.symm fun i => (mkP_rng hy i).1) ?_
      refine entPlan0 (T := mkT [] [(1, .bool s), (3, .ptr 2 0), (6, .bool false), (7, .int .i64 (h.few s : Nat)), (8, .slice 3 1 0 h.n h.n), (20, .snil)] 0 (List.replicate 187 none)) (H := H8c h s y) ?_ ?_ (i := 0) rfl
      · exact ent_tau [0, 1, 2, 3] ⟨by (repeat' (first | exact trivial | exact rfl | exact fun _ _ => rfl | exact fun _ _ _ _ => rfl | exact Or.inl rfl | exact Or.inr rfl | refine And.intro ?_ ?_)), by (repeat' (first | exact trivial | exact rfl | exact congrArg (SV.int .i64) (Int.natCast_succ _).symm | exact congrArg (SV.int .u64) (Int.natCast_succ _).symm | refine And.intro ?_ ?_)), rfl⟩
      · (repeat' (first | exact trivial | exact rfl | exact fun η => rfl | exact fun η => by simp [den, mkD] | refine And.intro ?_ ?_))
    · refine ⟨rfl, ?_⟩
      (repeat' (first | exact trivial | exact fun _ => rfl | exact rfl | refine And.intro ?_ ?_))
      refine CodeP.part (seg8a h hv s y (mkD y (k + 1) true cap) (pok_mk hy h0.symm true cap) h0.symm fun i => (mkP_rng hy i).1) ?_
      refine entTmR (T := mkT [] [(1, .bool s), (3, .ptr 2 0), (6, .bool false), (7, .int .i64 (h.few s : Nat)), (8, .slice 3 1 0 h.n h.n), (20, .slice 4 1 0 (k + 1) cap)] 0 (List.replicate 187 none)) ?_ ?_
      · exact ent_tau [0, 1, 2, 3, 4] ⟨by (repeat' (first | exact trivial | exact rfl | exact fun _ _ => rfl | exact fun _ _ _ _ => rfl | exact Or.inl rfl | exact Or.inr rfl | refine And.intro ?_ ?_)), by (repeat' (first | exact trivial | exact rfl | exact congrArg (SV.int .i64) (Int.natCast_succ _).symm | exact congrArg (SV.int .u64) (Int.natCast_succ _).symm | refine And.intro ?_ ?_)), rfl⟩
      · (repeat' (first | exact trivial | exact rfl | exact fun η => rfl | exact fun η => by simp [den, mkD] | refine And.intro ?_ ?_))
theorem seg8b (h : HD) (hv : h.Valid) (s : Bool) (y : PD) (hy : BOk y) (hyn : y.n ≤ 9223372036854775807) : CodeP Try.prog none 2 (sufC Try.f8 5) ⟨T8b h s y, H8c h s y, []⟩ (KRet E Try.f8 2 (.bool true) (HD.H h ++ [some (.roa 1 y.n (BDF y))])) := by
  have hn := hv.2.1
  have c := seg8c h hv s y hy hyn
  refine codeP_XK E_ok 4 ?_
  (repeat' (first | exact trivial | exact fun _ => rfl | exact rfl | refine And.intro ?_ ?_))
  refine loopP E_ok [1, 2, 3, 6, 7, 8, 10, 83, 84] (fun i : Nat => [(12, .int .i64 (HD.usedF (h.planF s) i : Nat)), (85, .int .i64 i)]) (fun _ H => H) (fun i => i ≤ h.n) (fun i => h.n - i) 0 (Nat.zero_le _) ?_ ?_
  · exact ent_tau [0, 1, 2, 3] ⟨by (repeat' (first | exact trivial | exact rfl | exact fun _ _ => rfl | exact fun _ _ _ _ => rfl | exact Or.inl rfl | exact Or.inr rfl | refine And.intro ?_ ?_)), by (repeat' (first | exact trivial | exact rfl | exact congrArg (SV.int .i64) (Int.natCast_succ _).symm | exact congrArg (SV.int .u64) (Int.natCast_succ _).symm | refine And.intro ?_ ?_)), rfl⟩
  rintro i hi
  refine And.intro ?_ (And.intro (fun hlt => ?_) (fun hlt => ?_))
  · (repeat' (first | exact trivial | exact fun _ => rfl | exact rfl | refine And.intro ?_ ?_))
  · have hlt' : i < h.n := by
      have := of_decide_eq_true hlt
      omega
    have ei := z1 i
    obtain ⟨nf1, nf2⟩ := HD.next_fresh hv s hlt'
    have nf3 := HD.usedF_le (h.planF s) i
    have pf := HD.planF_lt hv s hlt'
    have few7 := few_le h s
    have epl : (h.plan s).getD (0 + ((i : Nat) : Int).toNat) 0 = h.planF s i := by rw [ei]; rfl
    (repeat' (first | exact trivial | exact fun _ => rfl | exact rfl | refine And.intro ?_ ?_))
    all_goals first | (first | omega | exact u0 (by omega) | exact u1 (by omega) | exact u1 ⟨by omega, by omega⟩ | exact un (by omega) | exact fun hh => hh | exact fun hh => absurd hh (by decide) | exact fun hh => congrArg not hh | exact fun hh => Bool.noConfusion (show true = false from hh) | exact fun hh => Bool.noConfusion (show false = true from hh)) | (rw [epl]; omega) | skip
    · intro hx
      exfalso
      have hx2 : decide ((h.plan s).getD (0 + ((i : Nat) : Int).toNat) 0 > (HD.usedF (h.planF s) i : Nat)) = true := hx
      have := of_decide_eq_true hx2
      rw [epl] at this
      omega
    · intro hx
      (repeat' (first | exact trivial | exact fun _ => rfl | exact rfl | refine And.intro ?_ ?_))
      all_goals first | (first | omega | exact u0 (by omega) | exact u1 (by omega) | exact u1 ⟨by omega, by omega⟩ | exact un (by omega) | exact fun hh => hh | exact fun hh => absurd hh (by decide) | exact fun hh => congrArg not hh | exact fun hh => Bool.noConfusion (show true = false from hh) | exact fun hh => Bool.noConfusion (show false = true from hh)) | (rw [epl]; omega) | skip
      refine ⟨i + 1, hlt', by omega, ?_⟩
      refine ent_tau [0, 1, 2, 3] ⟨by (repeat' (first | exact trivial | exact rfl | exact fun _ _ => rfl | exact fun _ _ _ _ => rfl | exact Or.inl rfl | exact Or.inr rfl | refine And.intro ?_ ?_)), ?_, rfl⟩
      (repeat' (first | exact trivial | exact rfl | exact congrArg (SV.int .i64) (Int.natCast_succ _).symm | exact congrArg (SV.int .u64) (Int.natCast_succ _).symm | refine And.intro ?_ ?_))
      refine congrArg (SV.int .i64) ?_
      rw [epl]
      have kmax : ∀ a b : Int, (if b > a then b else a) = max a b := fun a b => by split <;> omega
      rw [← nf2]
      exact kmax _ _
  · (repeat' (first | exact trivial | exact fun _ => rfl | exact rfl | refine And.intro ?_ ?_))
    all_goals intro hs
    all_goals subst hs
    all_goals (repeat' (first | exact trivial | exact fun _ => rfl | exact rfl | refine And.intro ?_ ?_))
    all_goals refine CodeP.part c ?_
    all_goals exact ent_tau [0, 1, 2, 3] ⟨by (repeat' (first | exact trivial | exact rfl | exact fun _ _ => rfl | exact fun _ _ _ _ => rfl | exact Or.inl rfl | exact Or.inr rfl | refine And.intro ?_ ?_)), by (repeat' (first | exact trivial | exact rfl | exact congrArg (SV.int .i64) (Int.natCast_succ _).symm | exact congrArg (SV.int .u64) (Int.natCast_succ _).symm | refine And.intro ?_ ?_)), rfl⟩
end Go.Proofs.Ytgofhjihkinknaa
/-
  HorseFewest.
-/
namespace Go.Proofs.Ytgofhjihkinknaa
open Go Go.Sy Kuhn
set_option linter.unusedSimpArgs false
set_option maxRecDepth 100000
set_option maxHeartbeats 4000000
attribute [local irreducible] CallP CodeP Ent YieldP
attribute [local irreducible] HD.ch maskO

/-- The plan that is told. -/
def plD (h : HD) (s : Bool) : PD := ⟨h.n, h.planF s, true, h.n⟩
theorem plD_pok {h : HD} (hv : h.Valid) (s : Bool) : pok h (plD h s) = true := by
  have e : bad (h.planF s) h.n = false := bad_iff.2 fun k hk => by
    have := HD.planF_lt hv s hk
    have := few_le h s
    omega
  unfold pok
  show (decide (h.n = h.n) && !bad (h.planF s) h.n) = true
  rw [e]
  simp
theorem plD_right {h : HD} (hv : h.Valid) (s : Bool) : rightB h s (plD h s) = true := (rightB_iff hv (plD_pok hv s)).2 (HD.planF_right hv s)
theorem t39p (h : HD) (hv : h.Valid) (s : Bool) : CallP Try.prog 39 [HD.A h, .slice 1 1 0 h.n h.n] (HD.H h ++ [some (.roa 1 h.n (plF h s))]) (Ret (.bool true) (HD.H h ++ [some (.roa 1 h.n (plF h s))])) := by
  have c := t39 h (plD h s) (by have := hv.2.1; show h.n ≤ _; omega)
  rw [plD_pok hv s] at c
  exact CallP.argsD (args' := [HD.A h, .osl true 1 1 h.n h.n]) (fun η => by simp [den, denL, HD.A]) c
theorem t40p (h : HD) (hv : h.Valid) (s : Bool) : CallP Try.prog 40 [HD.A h, .slice 1 1 0 h.n h.n, .bool s] (HD.H h ++ [some (.roa 1 h.n (plF h s))]) (Ret (.bool true) (HD.H h ++ [some (.roa 1 h.n (plF h s))])) := by
  have c := t40 h (plD h s) (by have := hv.2.1; show h.n ≤ _; omega) s
  rw [plD_right hv s] at c
  exact CallP.argsD (args' := [HD.A h, .osl true 1 1 h.n h.n, .bool s]) (fun η => by simp [den, denL, HD.A]) c
theorem t41p (h : HD) (hv : h.Valid) (s : Bool) : CallP Try.prog 41 [.slice 0 1 0 h.n h.n] [some (.roa 1 h.n (plF h s))] (Ret (.int .i64 (h.few s : Nat)) [some (.roa 1 h.n (plF h s))]) := by
  have c := t41 (plD h s) (by have := hv.2.1; show h.n ≤ _; omega)
  have e : HD.usedF (plD h s).p (plD h s).n = h.few s := HD.planF_used hv s
  rw [e] at c
  exact CallP.argsD (args' := [.osl true 0 1 h.n h.n]) (fun η => by simp [den, denL]) c
theorem t42p (h : HD) (hv : h.Valid) (s : Bool) : CallP Try.prog 42 [.int .i64 (prfS h s : Nat)] [] (Ret (.int .i64 (h.few s : Nat)) []) := by
  have := t42 (prfS h s) (prf128 hv s)
  rw [prf_pop hv s] at this
  exact this
theorem t8 (h : HD) (s : Bool) (y : PD) (hy : BOk y) (hyn : y.n ≤ 9223372036854775807) : CallP Try.prog 8 [HD.A h, .bool s, .osl y.b 1 1 y.n y.cap] (HD.H h ++ [some (.roa 1 y.n (BDF y))]) (Ret (.bool true) (HD.H h ++ [some (.roa 1 y.n (BDF y))])) := by
  obtain ⟨b, hb⟩ : ∃ b, vb h = b := ⟨_, rfl⟩
  have c33 := t33 h
  rw [hb] at c33
  refine callRK (E := E) E_ok 5 Try.func8 rfl ?_
  (repeat' (first | exact trivial | exact fun _ => rfl | exact rfl | refine And.intro ?_ ?_))
  refine c33.use [0] ?_ (by (repeat' (first | exact trivial | exact rfl | exact fun _ _ => rfl | exact fun _ _ _ _ => rfl | exact Or.inl rfl | exact Or.inr rfl | refine And.intro ?_ ?_))) rfl
  cases b with
  | false =>
    (repeat' (first | exact trivial | exact fun _ => rfl | exact rfl | refine And.intro ?_ ?_))
    all_goals first | exact True.intro | omega | exact u1 (lt64 (by omega)) | exact u0 (lt64 (by omega)) | (show under _ _; simp [under, gB, wB]; done) | (show under _ _; simp [under, gB, wB]; omega) | skip
    all_goals intro hx
    all_goals first | exact absurd hx (by decide) | skip
    (repeat' (first | exact trivial | exact fun _ => rfl | exact rfl | refine And.intro ?_ ?_))
    refine t15.use [] ?_ trivial rfl
    (repeat' (first | exact trivial | exact fun _ => rfl | exact rfl | refine And.intro ?_ ?_))
    all_goals first | exact True.intro | omega | exact u1 (lt64 (by omega)) | exact u0 (lt64 (by omega)) | (show under _ _; simp [under, gB, wB]; done) | (show under _ _; simp [under, gB, wB]; omega) | skip
    exact ent_tau [0, 1] ⟨by (repeat' (first | exact trivial | exact rfl | exact fun _ _ => rfl | exact fun _ _ _ _ => rfl | exact Or.inl rfl | exact Or.inr rfl | refine And.intro ?_ ?_)), by (repeat' (first | exact trivial | exact rfl | exact congrArg (SV.int .i64) (Int.natCast_succ _).symm | exact congrArg (SV.int .u64) (Int.natCast_succ _).symm | refine And.intro ?_ ?_)), rfl⟩
  | true =>
    have hv := vb_iff.1 hb
    have hn := hv.2.1
    have c := seg8b h hv s y hy hyn
    have c26 := t26 h hv s
    have c28 := t28 h hv s
    have c39 := t39p h hv s
    have c40 := t40p h hv s
    have c41 := t41p h hv s
    have c42 := t42p h hv s
    have hsh : (prfS h s : Int).fdiv (2 ^ ((h.n : Nat) : Int).toNat) = 0 := by
      rw [Int.toNat_natCast]
      exact shr_zero (prf_lt h hn s)
    have hsh2 : (prfS h s : Int).fdiv (2 ^ h.n) = 0 := shr_zero (prf_lt h hn s)
    have hneg : ¬ ((prfS h s : Nat) : Int) < 0 := by omega
    (repeat' (first | exact trivial | exact fun _ => rfl | exact rfl | refine And.intro ?_ ?_))
    all_goals first | exact True.intro | omega | exact u1 (lt64 (by omega)) | exact u0 (lt64 (by omega)) | (show under _ _; simp [under, gB, wB]; done) | (show under _ _; simp [under, gB, wB]; omega) | skip
    all_goals intro hx
    all_goals first | exact absurd hx (by decide) | skip
    (repeat' (first | exact trivial | exact fun _ => rfl | exact rfl | refine And.intro ?_ ?_))
    refine c26.use [0] ?_ (by (repeat' (first | exact trivial | exact rfl | exact fun _ _ => rfl | exact fun _ _ _ _ => rfl | exact Or.inl rfl | exact Or.inr rfl | refine And.intro ?_ ?_))) rfl
    (repeat' (first | exact trivial | exact fun _ => rfl | exact rfl | refine And.intro ?_ ?_))
    refine c28.use [0] ?_ (by (repeat' (first | exact trivial | exact rfl | exact fun _ _ => rfl | exact fun _ _ _ _ => rfl | exact Or.inl rfl | exact Or.inr rfl | refine And.intro ?_ ?_))) rfl
    (repeat' (first | exact trivial | exact fun _ => rfl | exact rfl | refine And.intro ?_ ?_))
    all_goals first | exact True.intro | omega | exact u1 (lt64 (by omega)) | exact u0 (lt64 (by omega)) | (show under _ _; simp [under, gB, wB]; done) | (show under _ _; simp [under, gB, wB]; omega) | skip
    all_goals intro hg
    all_goals first | (exfalso; revert hg; simp [gB, wB]; done) | skip
    refine c39.use [0, 3] ?_ (by (repeat' (first | exact trivial | exact rfl | exact fun _ _ => rfl | exact fun _ _ _ _ => rfl | exact Or.inl rfl | exact Or.inr rfl | refine And.intro ?_ ?_))) rfl
    (repeat' (first | exact trivial | exact fun _ => rfl | exact rfl | refine And.intro ?_ ?_))
    all_goals first | exact True.intro | omega | exact u1 (lt64 (by omega)) | exact u0 (lt64 (by omega)) | (show under _ _; simp [under, gB, wB]; done) | (show under _ _; simp [under, gB, wB]; omega) | skip
    all_goals intro hg
    all_goals first | (exfalso; revert hg; simp [gB, wB]; done) | skip
    refine c40.use [0, 3] ?_ (by (repeat' (first | exact trivial | exact rfl | exact fun _ _ => rfl | exact fun _ _ _ _ => rfl | exact Or.inl rfl | exact Or.inr rfl | refine And.intro ?_ ?_))) rfl
    (repeat' (first | exact trivial | exact fun _ => rfl | exact rfl | refine And.intro ?_ ?_))
    all_goals first | exact True.intro | omega | exact u1 (lt64 (by omega)) | exact u0 (lt64 (by omega)) | (show under _ _; simp [under, gB, wB]; done) | (show under _ _; simp [under, gB, wB]; omega) | skip
    all_goals intro hg
    all_goals first | (exfalso; revert hg; simp [gB, wB]; done) | skip
    refine c41.use [3] ?_ (by (repeat' (first | exact trivial | exact rfl | exact fun _ _ => rfl | exact fun _ _ _ _ => rfl | exact Or.inl rfl | exact Or.inr rfl | refine And.intro ?_ ?_))) rfl
    (repeat' (first | exact trivial | exact fun _ => rfl | exact rfl | refine And.intro ?_ ?_))
    all_goals first | exact True.intro | omega | exact u1 (lt64 (by omega)) | exact u0 (lt64 (by omega)) | (show under _ _; simp [under, gB, wB]; done) | (show under _ _; simp [under, gB, wB]; omega) | skip
    all_goals intro hg
    all_goals first | (exfalso; revert hg; simp [gB, wB, hsh2, hneg]; done) | skip
    refine c42.use [] ?_ trivial rfl
    clear c26 c28 c39 c40 c41 c42
    (repeat' (first | exact trivial | exact fun _ => rfl | exact rfl | refine And.intro ?_ ?_))
    all_goals first | exact True.intro | omega | exact u1 (lt64 (by omega)) | exact u0 (lt64 (by omega)) | (show under _ _; simp [under, gB, wB]; done) | (show under _ _; simp [under, gB, wB]; omega) | skip
    · intro hx
      exfalso
      revert hx
      simp [hsh2, hneg]
    · intro hx
      clear hx
      (repeat' (first | exact trivial | exact fun _ => rfl | exact rfl | refine And.intro ?_ ?_))
      refine CodeP.pre ?_ c
      exact ent_tau [0, 1, 2, 3] ⟨by (repeat' (first | exact trivial | exact rfl | exact fun _ _ => rfl | exact fun _ _ _ _ => rfl | exact Or.inl rfl | exact Or.inr rfl | refine And.intro ?_ ?_)), by (repeat' (first | exact trivial | exact rfl | exact congrArg (SV.int .i64) (Int.natCast_succ _).symm | exact congrArg (SV.int .u64) (Int.natCast_succ _).symm | refine And.intro ?_ ?_)), rfl⟩
    all_goals simp [under, gB, wB, hsh2, hneg]
end Go.Proofs.Ytgofhjihkinknaa
