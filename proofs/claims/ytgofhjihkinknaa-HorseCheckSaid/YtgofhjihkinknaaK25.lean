/-
  Parts: Qb, Qd.
-/
import Derived.Test.YtgofhjihkinknaaK24
set_option linter.unusedVariables false
/-
  HorseCheck.
-/
namespace Go.Proofs.Ytgofhjihkinknaa
open Go Go.Sy Kuhn
set_option linter.unusedSimpArgs false
set_option maxRecDepth 100000
set_option maxHeartbeats 4000000
attribute [local irreducible] CallP CodeP Ent YieldP
attribute [local irreducible] HD.ch maskO

/-- Whether a move can follow another one. -/
def fv (h : HD) (i k : Nat) : Int := if h.can true i k = true then 2 else if h.can false i k = true then 1 else 0
theorem fol_in {h : HD} (hv : h.Valid) {i k : Nat} (hi : i < h.n) (hk : k < h.n) : HD.fol h (i : Nat) (k : Nat) = (fv h i k, 0) := by
  unfold HD.fol fv
  rw [if_pos hv, if_pos ⟨inB_iff.2 (by omega), inB_iff.2 (by omega)⟩]
  simp only [Int.toNat_natCast]
theorem t16i (h : HD) (hv : h.Valid) (i k : Nat) (hi : i < h.n) (hk : k < h.n) : CallP Try.prog 16 [HD.A h, .int .i64 i, .int .i64 k] (HD.H h) (Ret (.tup [.int .i64 (fv h i k), .int .i64 0]) (HD.H h)) := by
  have := t16 h i k
  rw [fol_in hv hi hk] at this
  exact this
/-- The number from which on a move can follow another one. -/
def canN (s : Bool) : Int := match s with | true => 2 | false => 1
theorem fv_lt {h : HD} (hv : h.Valid) {s : Bool} {i k : Nat} (hi : i < h.n) : fv h i k < canN s ↔ h.can s i k = false := by
  have := HD.can_sure hv hi (k := k)
  unfold fv canN
  cases s <;> cases c : h.can true i k <;> cases d : h.can false i k <;> simp_all
theorem fv_both {h : HD} (hv : h.Valid) {i k : Nat} (hi : i < h.n) (hk : k < h.n) : ¬ (fv h i k > 0 ∧ fv h k i > 0) := by
  rintro ⟨a, b⟩
  have c1 : h.can false i k = true := by
    cases c : h.can false i k
    · have := (fv_lt hv (s := false) hi).2 c
      simp only [canN] at this
      omega
    · rfl
  have c2 : h.can false k i = true := by
    cases c : h.can false k i
    · have := (fv_lt hv (s := false) hk).2 c
      simp only [canN] at this
      omega
    · rfl
  have := HD.can_at hv hi hk c1
  have := HD.can_at hv hk hi c2
  omega
theorem apart_fv {h : HD} (hv : h.Valid) {s : Bool} {i k : Nat} (hi : i < h.n) (hk : k < h.n) : (fv h i k < canN s ∧ fv h k i < canN s) ↔ h.apart s i k = true := by
  rw [fv_lt hv hi, fv_lt hv hk]
  unfold HD.apart
  simp
/-- The state behind the plan. -/
noncomputable def T9 (s : Bool) (pl : PD) : Tm := mkT [] [(1, .bool s), (3, .ptr 2 0), (6, .bool false), (7, .osl pl.b 3 1 pl.n pl.cap)] 0 (List.replicate 123 none)
def Hm (h : HD) (y pl : PD) : SHeap := HD.H h ++ [some (.roa 1 y.n (BDF y)), some (.cells (bc h)), some (.roa 1 pl.n (PD.F pl))]
noncomputable def T9b (s : Bool) (pl : PD) (r : Int × Int × Int) : Tm := mkT [] [(3, .ptr 2 0), (6, .bool false), (7, .osl pl.b 3 1 pl.n pl.cap), (8, .int .i64 r.1), (9, .int .i64 r.2.1), (10, .int .i64 r.2.2), (11, .int .i64 (canN s))] 0 (List.replicate 123 none)
theorem seg9b (h : HD) (hv : h.Valid) (s : Bool) (y pl : PD) (hpl : pok h pl = true) (hpn : pl.n = h.n) (r : Int × Int × Int) (hr : HD.chk h s pl = r) : CodeP Try.prog none 2 (sufC Try.f9 6) ⟨T9b s pl r, Hm h y pl, []⟩ (KRet E Try.f9 2 (.bool true) (HD.H h ++ [some (.roa 1 y.n (BDF y))])) := by
  have hn := hv.2.1
  refine codeP_XK E_ok 100 ?_
  (repeat' (first | exact trivial | exact fun _ => rfl | exact rfl | refine And.intro ?_ ?_))
  refine loopP E_ok [3, 6, 7, 8, 9, 10, 11, 35] (fun i : Nat => [(36, .int .i64 i)]) (fun _ H => H) (fun i => i ≤ pl.n ∧ ∀ i' k', i' < i → i' < k' → k' < pl.n → ¬ twoBad h s pl i' k') (fun i => pl.n - i) 0 ⟨Nat.zero_le _, fun i' _ hk => absurd hk (Nat.not_lt_zero i')⟩ ?_ ?_
  · exact ent_tau [0, 1, 2, 3] ⟨by (repeat' (first | exact trivial | exact rfl | exact fun _ _ => rfl | exact fun _ _ _ _ => rfl | exact Or.inl rfl | exact Or.inr rfl | refine And.intro ?_ ?_)), by (repeat' (first | exact trivial | exact rfl | exact congrArg (SV.int .i64) (Int.natCast_succ _).symm | exact congrArg (SV.int .u64) (Int.natCast_succ _).symm | refine And.intro ?_ ?_)), rfl⟩
  rintro i ⟨hi, hall⟩
  refine And.intro ?_ (And.intro (fun hlt => ?_) (fun hlt => ?_))
  · (repeat' (first | exact trivial | exact fun _ => rfl | exact rfl | refine And.intro ?_ ?_))
  · have hlt' : i < pl.n := by
      have := of_decide_eq_true hlt
      omega
    (repeat' (first | exact trivial | exact fun _ => rfl | exact rfl | refine And.intro ?_ ?_))
    all_goals first | (first | omega | exact u0 (by omega) | exact u1 (by omega) | exact u1 ⟨by omega, by omega⟩ | exact un (by omega) | exact fun hh => hh | exact fun hh => absurd hh (by decide) | exact fun hh => congrArg not hh | exact fun hh => Bool.noConfusion (show true = false from hh) | exact fun hh => Bool.noConfusion (show false = true from hh)) | skip
    refine loopP E_ok [3, 6, 7, 8, 9, 10, 11, 12, 35, 36] (fun k : Nat => [(13, .int .i64 k)]) (fun _ H => H) (fun k => i < k ∧ k ≤ pl.n ∧ ∀ k', i < k' → k' < k → ¬ twoBad h s pl i k') (fun k => pl.n - k) (i + 1) ⟨Nat.lt_succ_self i, hlt', fun k' a b => absurd b (by omega)⟩ ?_ ?_
    · exact ent_tau [0, 1, 2, 3] ⟨by (repeat' (first | exact trivial | exact rfl | exact fun _ _ => rfl | exact fun _ _ _ _ => rfl | exact Or.inl rfl | exact Or.inr rfl | refine And.intro ?_ ?_)), by (repeat' (first | exact trivial | exact rfl | exact congrArg (SV.int .i64) (Int.natCast_succ _).symm | exact congrArg (SV.int .u64) (Int.natCast_succ _).symm | refine And.intro ?_ ?_)), rfl⟩
    rintro k ⟨hik, hk, hall2⟩
    refine And.intro ?_ (And.intro (fun hlk => ?_) (fun hlk => ?_))
    · (repeat' (first | exact trivial | exact fun _ => rfl | exact rfl | refine And.intro ?_ ?_))
    · have hlk' : k < pl.n := by
        have := of_decide_eq_true hlk
        omega
      have ci := t16i h hv i k (by omega) (by omega)
      have ck := t16i h hv k i (by omega) (by omega)
      (repeat' (first | exact trivial | exact fun _ => rfl | exact rfl | refine And.intro ?_ ?_))
      refine ci.use [0] ?_ (by (repeat' (first | exact trivial | exact rfl | exact fun _ _ => rfl | exact fun _ _ _ _ => rfl | exact Or.inl rfl | exact Or.inr rfl | refine And.intro ?_ ?_))) rfl
      (repeat' (first | exact trivial | exact fun _ => rfl | exact rfl | refine And.intro ?_ ?_))
      refine ck.use [0] ?_ (by (repeat' (first | exact trivial | exact rfl | exact fun _ _ => rfl | exact fun _ _ _ _ => rfl | exact Or.inl rfl | exact Or.inr rfl | refine And.intro ?_ ?_))) rfl
      clear ci ck
      have hfb := fv_both hv (i := i) (k := k) (by omega) (by omega)
      have hap := apart_fv hv (s := s) (i := i) (k := k) (by omega) (by omega)
      obtain ⟨n1, e1⟩ : ∃ z, fv h i k = z := ⟨_, rfl⟩
      obtain ⟨n2, e2⟩ : ∃ z, fv h k i = z := ⟨_, rfl⟩
      rw [e1, e2] at hfb hap
      rw [e1, e2]
      (repeat' (first | exact trivial | exact fun _ => rfl | exact rfl | refine And.intro ?_ ?_))
      all_goals first | exact True.intro | omega | exact u1 (lt64 (by omega)) | exact u0 (lt64 (by omega)) | (show under _ _; simp [under, gB, wB]; done) | (show under _ _; simp [under, gB, wB]; omega) | skip
      · intro hx
        exfalso
        simp at hx
        omega
      · intro hx
        clear hx
        (repeat' (first | exact trivial | exact fun _ => rfl | exact rfl | refine And.intro ?_ ?_))
        refine drawP E_ok [] pl9_18 (by kernel_rfl) ?_
        (repeat' (first | exact trivial | exact fun _ => rfl | exact rfl | refine And.intro ?_ ?_))
        all_goals first | exact True.intro | omega | exact u1 (lt64 (by omega)) | exact u0 (lt64 (by omega)) | (show under _ _; simp [under, gB, wB]; done) | (show under _ _; simp [under, gB, wB]; omega) | skip
        all_goals first | exact u0 (by omega) | skip
        · intro hx
          have ei := z1 i
          have ek := z1 k
          simp [ei, ek] at hx
          have hb : twoBad h s pl i k := ⟨hx.1.1, hap.1 ⟨hx.1.2, hx.2⟩⟩
          have er : r = ((i : Int), (k : Int), 0) := by
            rw [← hr]
            refine chk_is (.inr (.inr ⟨hv, hpl, .inl ⟨i, k, ⟨hik, by omega, hb⟩, fun i' k' h1 h2 h3 => ?_, rfl⟩⟩))
            rcases Nat.lt_trichotomy i' i with c | c | c
            · exact absurd h3 (hall i' k' c h1 (by omega))
            · subst c
              by_cases d : k ≤ k'
              · exact .inr ⟨rfl, d⟩
              · exact absurd h3 (hall2 k' h1 (by omega))
            · exact .inl c
          clear hr
          subst er
          have di : decide ((i : Int) = (i : Int)) = true := decide_eq_true rfl
          have dk : decide ((k : Int) = (k : Int)) = true := decide_eq_true rfl
          (repeat' (first | exact trivial | exact fun _ => rfl | exact rfl | refine And.intro ?_ ?_))
          all_goals first | exact True.intro | omega | exact u1 (lt64 (by omega)) | exact u0 (lt64 (by omega)) | (show under _ _; simp [under, gB, wB]; done) | (show under _ _; simp [under, gB, wB]; omega) | skip
          · intro _
            refine t15.use [] ?_ trivial rfl
            (repeat' (first | exact trivial | exact fun _ => rfl | exact rfl | refine And.intro ?_ ?_))
            all_goals first | exact True.intro | omega | exact u1 (lt64 (by omega)) | exact u0 (lt64 (by omega)) | (show under _ _; simp [under, gB, wB]; done) | (show under _ _; simp [under, gB, wB]; omega) | skip
            refine ent_tau [0, 1] ⟨by (repeat' (first | exact trivial | exact rfl | exact fun _ _ => rfl | exact fun _ _ _ _ => rfl | exact Or.inl rfl | exact Or.inr rfl | refine And.intro ?_ ?_)), ⟨rfl, ?_, trivial⟩, rfl⟩
            exact congrArg SV.bool (by simp)
          · intro hx
            exfalso
            simp [gB, wB] at hx
        · intro hx
          have ei := z1 i
          have ek := z1 k
          have hb : ¬ twoBad h s pl i k := by
            rintro ⟨b1, b2⟩
            have b3 := hap.2 b2
            simp [ei, ek] at hx
            omega
          (repeat' (first | exact trivial | exact fun _ => rfl | exact rfl | refine And.intro ?_ ?_))
          all_goals first | exact True.intro | omega | exact u1 (lt64 (by omega)) | exact u0 (lt64 (by omega)) | (show under _ _; simp [under, gB, wB]; done) | (show under _ _; simp [under, gB, wB]; omega) | skip
          refine ⟨k + 1, ⟨by omega, hlk', fun k' h1 h2 => ?_⟩, by omega, ?_⟩
          · by_cases c : k' = k
            · rw [c]
              exact hb
            · exact hall2 k' h1 (by omega)
          exact ent_tau [0, 1, 2, 3] ⟨by (repeat' (first | exact trivial | exact rfl | exact fun _ _ => rfl | exact fun _ _ _ _ => rfl | exact Or.inl rfl | exact Or.inr rfl | refine And.intro ?_ ?_)), by (repeat' (first | exact trivial | exact rfl | exact congrArg (SV.int .i64) (Int.natCast_succ _).symm | exact congrArg (SV.int .u64) (Int.natCast_succ _).symm | refine And.intro ?_ ?_)), rfl⟩
    · have ek : k = pl.n := by
        have := of_decide_eq_false hlk
        omega
      (repeat' (first | exact trivial | exact fun _ => rfl | exact rfl | refine And.intro ?_ ?_))
      all_goals first | exact True.intro | omega | exact u1 (lt64 (by omega)) | exact u0 (lt64 (by omega)) | (show under _ _; simp [under, gB, wB]; done) | (show under _ _; simp [under, gB, wB]; omega) | skip
      refine ⟨i + 1, ⟨hlt', fun i' k' h1 h2 h3 => ?_⟩, by omega, ?_⟩
      · by_cases c : i' = i
        · rw [c] at h2 ⊢
          exact hall2 k' h2 (by omega)
        · exact hall i' k' (by omega) h2 h3
      exact ent_tau [0, 1, 2, 3] ⟨by (repeat' (first | exact trivial | exact rfl | exact fun _ _ => rfl | exact fun _ _ _ _ => rfl | exact Or.inl rfl | exact Or.inr rfl | refine And.intro ?_ ?_)), by (repeat' (first | exact trivial | exact rfl | exact congrArg (SV.int .i64) (Int.natCast_succ _).symm | exact congrArg (SV.int .u64) (Int.natCast_succ _).symm | refine And.intro ?_ ?_)), rfl⟩
  · have er : r = (0, 0, 4) := by
      have := of_decide_eq_false hlt
      rw [← hr]
      exact chk_is (.inr (.inr ⟨hv, hpl, .inr ⟨fun i' k' h1 h2 h3 => hall i' k' (by omega) h1 (by omega) h3, rfl⟩⟩))
    clear hr
    subst er
    (repeat' (first | exact trivial | exact fun _ => rfl | exact rfl | refine And.intro ?_ ?_))
    all_goals first | exact True.intro | omega | exact u1 (lt64 (by omega)) | exact u0 (lt64 (by omega)) | (show under _ _; simp [under, gB, wB]; done) | (show under _ _; simp [under, gB, wB]; omega) | skip
    · intro _
      refine t15.use [] ?_ trivial rfl
      (repeat' (first | exact trivial | exact fun _ => rfl | exact rfl | refine And.intro ?_ ?_))
      all_goals first | exact True.intro | omega | exact u1 (lt64 (by omega)) | exact u0 (lt64 (by omega)) | (show under _ _; simp [under, gB, wB]; done) | (show under _ _; simp [under, gB, wB]; omega) | skip
      refine ent_tau [0, 1] ⟨by (repeat' (first | exact trivial | exact rfl | exact fun _ _ => rfl | exact fun _ _ _ _ => rfl | exact Or.inl rfl | exact Or.inr rfl | refine And.intro ?_ ?_)), ⟨rfl, ?_, trivial⟩, rfl⟩
      exact congrArg SV.bool (by simp)
    · intro hx
      exfalso
      simp [gB, wB] at hx
theorem seg9 (h : HD) (hv : h.Valid) (s : Bool) (y pl : PD) (hpl : pok h pl = true) (hpn : pl.n = h.n) : CodeP Try.prog none 2 (sufC Try.f9 3) ⟨T9 s pl, Hm h y pl, []⟩ (KRet E Try.f9 2 (.bool true) (HD.H h ++ [some (.roa 1 y.n (BDF y))])) := by
  have hn := hv.2.1
  obtain ⟨r, hr⟩ : ∃ r, HD.chk h s pl = r := ⟨_, rfl⟩
  have c18 := t18 h pl (by omega) s
  rw [hr] at c18
  have c := seg9b h hv s y pl hpl hpn r hr
  refine codeP_XK E_ok 3 ?_
  (repeat' (first | exact trivial | exact fun _ => rfl | exact rfl | refine And.intro ?_ ?_))
  refine c18.use [0, 3] ?_ (by (repeat' (first | exact trivial | exact rfl | exact fun _ _ => rfl | exact fun _ _ _ _ => rfl | exact Or.inl rfl | exact Or.inr rfl | refine And.intro ?_ ?_))) rfl
  clear c18
  cases s
  all_goals (repeat' (first | exact trivial | exact fun _ => rfl | exact rfl | refine And.intro ?_ ?_))
  all_goals intro hx
  all_goals first | cases hx | skip
  all_goals (repeat' (first | exact trivial | exact fun _ => rfl | exact rfl | refine And.intro ?_ ?_))
  all_goals refine CodeP.part c ?_
  all_goals exact ent_tau [0, 1, 2, 3] ⟨by (repeat' (first | exact trivial | exact rfl | exact fun _ _ => rfl | exact fun _ _ _ _ => rfl | exact Or.inl rfl | exact Or.inr rfl | refine And.intro ?_ ?_)), by (repeat' (first | exact trivial | exact rfl | exact congrArg (SV.int .i64) (Int.natCast_succ _).symm | exact congrArg (SV.int .u64) (Int.natCast_succ _).symm | refine And.intro ?_ ?_)), rfl⟩
end Go.Proofs.Ytgofhjihkinknaa
/-
  HorseCheck, and what is alike where plans are made by numbers.
-/
namespace Go.Proofs.Ytgofhjihkinknaa
open Go Go.Sy Kuhn
set_option linter.unusedSimpArgs false
set_option maxRecDepth 100000
set_option maxHeartbeats 4000000
attribute [local irreducible] CallP CodeP Ent YieldP
attribute [local irreducible] HD.ch maskO

theorem entPlan0 {n : Nat} {s : Go.Sy.St} {T T' : Tm} {H : SHeap} {D : List SV} {i sz0 m0 : Nat} {get0 : Nat → List SV} {sz : Nat} {get : Nat → List SV} (h : Ent n s ⟨T, H, D⟩) (hT : TmEq T T') (hi : H[i]? = some (some (.roa sz0 m0 get0))) : Ent n s ⟨T', H ++ [some (.roa sz 0 get)], D⟩ := entAliasR (entTmR h hT) hi
/-- The plan that is made. -/
def mkD (y : PD) (n : Nat) (b : Bool) (cap : Nat) : PD := ⟨n, mkP y, b, cap⟩
theorem pok_mk {h : HD} {y : PD} (hy : BOk y) {n : Nat} (hn : n = h.n) (b : Bool) (cap : Nat) : pok h (mkD y n b cap) = true := by
  subst hn
  unfold pok
  have e : bad (mkD y h.n b cap).p (mkD y h.n b cap).n = false := bad_iff.2 fun k _ => mkP_rng hy k
  rw [e]
  simp [mkD]
theorem t9 (h : HD) (s : Bool) (y : PD) (hy : BOk y) (hyn : y.n ≤ 9223372036854775807) : CallP Try.prog 9 [HD.A h, .bool s, .osl y.b 1 1 y.n y.cap] (HD.H h ++ [some (.roa 1 y.n (BDF y))]) (Ret (.bool true) (HD.H h ++ [some (.roa 1 y.n (BDF y))])) := by
  obtain ⟨b, hb⟩ : ∃ b, vb h = b := ⟨_, rfl⟩
  have c33 := t33 h
  rw [hb] at c33
  refine callRK (E := E) E_ok 3 Try.func9 rfl ?_
  (repeat' (first | exact trivial | exact fun _ => rfl | exact rfl | refine And.intro ?_ ?_))
  refine c33.use [0] ?_ (by (repeat' (first | exact trivial | exact rfl | exact fun _ _ => rfl | exact fun _ _ _ _ => rfl | exact Or.inl rfl | exact Or.inr rfl | refine And.intro ?_ ?_))) rfl
  cases b with
  | false =>
    (repeat' (first | exact trivial | exact fun _ => rfl | exact rfl | refine And.intro ?_ ?_))
    all_goals first | exact True.intro | omega | exact u1 (lt64 (by omega)) | exact u0 (lt64 (by omega)) | (show under _ _; simp [under, gB, wB]; done) | (show under _ _; simp [under, gB, wB]; omega) | skip
    all_goals intro hx
    all_goals first | exact absurd hx (by decide) | skip
    (repeat' (first | exact trivial | exact fun _ => rfl | exact rfl | refine And.intro ?_ ?_))
    refine t15.use [] ?_ trivial rfl
    (repeat' (first | exact trivial | exact fun _ => rfl | exact rfl | refine And.intro ?_ ?_))
    all_goals first | exact True.intro | omega | exact u1 (lt64 (by omega)) | exact u0 (lt64 (by omega)) | (show under _ _; simp [under, gB, wB]; done) | (show under _ _; simp [under, gB, wB]; omega) | skip
    exact ent_tau [0, 1] ⟨by (repeat' (first | exact trivial | exact rfl | exact fun _ _ => rfl | exact fun _ _ _ _ => rfl | exact Or.inl rfl | exact Or.inr rfl | refine And.intro ?_ ?_)), by (repeat' (first | exact trivial | exact rfl | exact congrArg (SV.int .i64) (Int.natCast_succ _).symm | exact congrArg (SV.int .u64) (Int.natCast_succ _).symm | refine And.intro ?_ ?_)), rfl⟩
  | true =>
    have hv := vb_iff.1 hb
    (repeat' (first | exact trivial | exact fun _ => rfl | exact rfl | refine And.intro ?_ ?_))
    all_goals first | exact True.intro | omega | exact u1 (lt64 (by omega)) | exact u0 (lt64 (by omega)) | (show under _ _; simp [under, gB, wB]; done) | (show under _ _; simp [under, gB, wB]; omega) | skip
    all_goals intro hx
    all_goals first | exact absurd hx (by decide) | skip
    (repeat' (first | exact trivial | exact fun _ => rfl | exact rfl | refine And.intro ?_ ?_))
    refine CallP.frameH (t34 h hv y hy hyn) [0, 1] (by (repeat' (first | exact trivial | exact rfl | exact fun _ _ => rfl | exact fun _ _ _ _ => rfl | exact Or.inl rfl | exact Or.inr rfl | refine And.intro ?_ ?_))) rfl ?_
    rintro ce h' (⟨h0, rfl, rfl⟩ | ⟨k, cap, h0, hc1, hc2, rfl, rfl⟩)
    · refine ⟨rfl, ?_⟩
      (repeat' (first | exact trivial | exact fun _ => rfl | exact rfl | refine And.intro ?_ ?_))
      refine CodeP.pre ?_ (seg9 h hv s y (mkD y 0 false 0) (pok_mk hy h0.symm false 0) h0.symm)
      refine entPlan0 (T := mkT [] [(1, .bool s), (3, .ptr 2 0), (6, .bool false), (7, .snil)] 0 (List.replicate 123 none)) (H := HD.H h ++ [some (.roa 1 y.n (BDF y)), some (.cells (bc h))]) ?_ ?_ (i := 0) rfl
      · exact ent_tau [0, 1, 2] ⟨by (repeat' (first | exact trivial | exact rfl | exact fun _ _ => rfl | exact fun _ _ _ _ => rfl | exact Or.inl rfl | exact Or.inr rfl | refine And.intro ?_ ?_)), by (repeat' (first | exact trivial | exact rfl | exact congrArg (SV.int .i64) (Int.natCast_succ _).symm | exact congrArg (SV.int .u64) (Int.natCast_succ _).symm | refine And.intro ?_ ?_)), rfl⟩
      · (repeat' (first | exact trivial | exact rfl | exact fun η => rfl | exact fun η => by simp [den, mkD] | refine And.intro ?_ ?_))
    · refine ⟨rfl, ?_⟩
      (repeat' (first | exact trivial | exact fun _ => rfl | exact rfl | refine And.intro ?_ ?_))
      refine CodeP.pre ?_ (seg9 h hv s y (mkD y (k + 1) true cap) (pok_mk hy h0.symm true cap) h0.symm)
      refine entTmR (T := mkT [] [(1, .bool s), (3, .ptr 2 0), (6, .bool false), (7, .slice 3 1 0 (k + 1) cap)] 0 (List.replicate 123 none)) ?_ ?_
      · exact ent_tau [0, 1, 2, 3] ⟨by (repeat' (first | exact trivial | exact rfl | exact fun _ _ => rfl | exact fun _ _ _ _ => rfl | exact Or.inl rfl | exact Or.inr rfl | refine And.intro ?_ ?_)), by (repeat' (first | exact trivial | exact rfl | exact congrArg (SV.int .i64) (Int.natCast_succ _).symm | exact congrArg (SV.int .u64) (Int.natCast_succ _).symm | refine And.intro ?_ ?_)), rfl⟩
      · (repeat' (first | exact trivial | exact rfl | exact fun η => rfl | exact fun η => by simp [den, mkD] | refine And.intro ?_ ?_))
end Go.Proofs.Ytgofhjihkinknaa
