/-
  Parts: Qx, Ta, Tb, Tc.
-/
import Derived.Test.YtgofhjihkinknaaN25
import Derived.Test.YtgofhjihkinknaaN23
set_option linter.unusedVariables false
/-
  Contracts: when moves truly begin.
-/
namespace Go.Proofs.Ytgofhjihkinknaa
open Go Go.Sy Kuhn
set_option linter.unusedSimpArgs false
set_option maxRecDepth 100000
set_option maxHeartbeats 4000000
attribute [local irreducible] CallP CodeP Ent YieldP
attribute [local irreducible] HD.ch maskO

theorem t36 (h : HD) (hv : h.Valid) (i k : Nat) (hi : i < h.n) (hk : k < h.n) : CallP Try.prog 36 [HD.A h, .int .i64 i, .int .i64 k] (HD.H h) (Ret (.int .i64 (h.pace * h.dist i k)) (HD.H h)) := by
  have hn := hv.2.1
  have ei := z1 i
  have ek := z1 k
  have mi := hv.2.2 i hi
  have mk := hv.2.2 k hk
  unfold HD.okMv at mi mk
  have w0 := HD.walk_nonneg hv i k
  have w1 := HD.walk_le hv hi hk
  refine callR (E := E) E_ok Try.func36 rfl ?_
  (repeat' (first | exact trivial | exact fun _ => rfl | exact rfl | refine And.intro ?_ ?_))
  refine drawP E_ok [1] pl36_1 (by kernel_rfl) ?_
  (repeat' (first | exact trivial | exact fun _ => rfl | exact rfl | refine And.intro ?_ ?_))
  all_goals first | (first | omega | exact u0 (by omega) | exact u1 (by omega) | exact u1 ⟨by omega, by omega⟩ | exact un (by omega) | exact fun hh => hh | exact fun hh => absurd hh (by decide) | exact fun hh => congrArg not hh | exact fun hh => Bool.noConfusion (show true = false from hh) | exact fun hh => Bool.noConfusion (show false = true from hh)) | (simp only [ei, ek]; (first | omega | exact u0 (by omega) | exact u1 (by omega) | exact u1 ⟨by omega, by omega⟩ | exact un (by omega) | exact fun hh => hh | exact fun hh => absurd hh (by decide) | exact fun hh => congrArg not hh | exact fun hh => Bool.noConfusion (show true = false from hh) | exact fun hh => Bool.noConfusion (show false = true from hh))) | skip
  · intro hx
    have hx2 : decide (h.pl (0 + ((i : Nat) : Int).toNat) - h.pl (0 + ((k : Nat) : Int).toNat) < 0) = true := hx
    have hx3 := of_decide_eq_true hx2
    rw [ei, ek] at hx3
    have e : h.dist i k = -(h.pl i - h.pl k) := by
      unfold HD.dist
      omega
    have eW : h.pace * (0 - (h.pl (0 + ((i : Nat) : Int).toNat) - h.pl (0 + ((k : Nat) : Int).toNat))) = h.pace * h.dist i k := by
      rw [ei, ek, e, Int.zero_sub]
    (repeat' (first | exact trivial | exact fun _ => rfl | exact rfl | refine And.intro ?_ ?_))
    all_goals first | (first | omega | exact u0 (by omega) | exact u1 (by omega) | exact u1 ⟨by omega, by omega⟩ | exact un (by omega) | exact fun hh => hh | exact fun hh => absurd hh (by decide) | exact fun hh => congrArg not hh | exact fun hh => Bool.noConfusion (show true = false from hh) | exact fun hh => Bool.noConfusion (show false = true from hh)) | (simp only [ei, ek]; (first | omega | exact u0 (by omega) | exact u1 (by omega) | exact u1 ⟨by omega, by omega⟩ | exact un (by omega) | exact fun hh => hh | exact fun hh => absurd hh (by decide) | exact fun hh => congrArg not hh | exact fun hh => Bool.noConfusion (show true = false from hh) | exact fun hh => Bool.noConfusion (show false = true from hh))) | (rw [eW]; omega) | skip
    refine ent_tau [0] ⟨by (repeat' (first | exact trivial | exact rfl | exact fun _ _ => rfl | exact Or.inl rfl | refine And.intro ?_ ?_)), ⟨rfl, ?_, trivial⟩, rfl⟩
    exact congrArg (SV.int .i64) eW
  · intro hx
    have hx2 : decide (h.pl (0 + ((i : Nat) : Int).toNat) - h.pl (0 + ((k : Nat) : Int).toNat) < 0) = false := hx
    have hx3 := of_decide_eq_false hx2
    rw [ei, ek] at hx3
    have e : h.dist i k = h.pl i - h.pl k := by
      unfold HD.dist
      omega
    have eW : h.pace * (h.pl (0 + ((i : Nat) : Int).toNat) - h.pl (0 + ((k : Nat) : Int).toNat)) = h.pace * h.dist i k := by
      rw [ei, ek, e]
    (repeat' (first | exact trivial | exact fun _ => rfl | exact rfl | refine And.intro ?_ ?_))
    all_goals first | (first | omega | exact u0 (by omega) | exact u1 (by omega) | exact u1 ⟨by omega, by omega⟩ | exact un (by omega) | exact fun hh => hh | exact fun hh => absurd hh (by decide) | exact fun hh => congrArg not hh | exact fun hh => Bool.noConfusion (show true = false from hh) | exact fun hh => Bool.noConfusion (show false = true from hh)) | (simp only [ei, ek]; (first | omega | exact u0 (by omega) | exact u1 (by omega) | exact u1 ⟨by omega, by omega⟩ | exact un (by omega) | exact fun hh => hh | exact fun hh => absurd hh (by decide) | exact fun hh => congrArg not hh | exact fun hh => Bool.noConfusion (show true = false from hh) | exact fun hh => Bool.noConfusion (show false = true from hh))) | (rw [eW]; omega) | skip
    refine ent_tau [0] ⟨by (repeat' (first | exact trivial | exact rfl | exact fun _ _ => rfl | exact Or.inl rfl | refine And.intro ?_ ?_)), ⟨rfl, ?_, trivial⟩, rfl⟩
    exact congrArg (SV.int .i64) eW
/-- When moves begin, if they take so long. -/
def thL (h : HD) (lg : Nat → Int) : Int → Nat → Nat → Int := fun b m k => b + lg m + h.pace * h.dist m k
def TL (h : HD) (pl : PD) (lg : Nat → Int) : Nat → Int := tmS h.at' pl.p (thL h lg) (srtF h.at' h.n) h.n
/-- A truth: how long moves take. -/
def LgOk (h : HD) (lg : Nat → Int) : Prop := ∀ i, i < h.n → h.lo i ≤ lg i ∧ lg i ≤ h.hi i
theorem T59_TL (h : HD) (pl : PD) (s : Bool) : T59 h pl s = TL h pl (h.takes s) := rfl
theorem TL_val {h : HD} {pl : PD} {lg : Nat → Int} {i : Nat} (hi : i < h.n) : TL h pl lg (srtF h.at' h.n i) = match lastI pl.p (srtF h.at' h.n) i (pl.p (srtF h.at' h.n i)) with
    | none => h.at' (srtF h.at' h.n i)
    | some i' => max (h.at' (srtF h.at' h.n i)) (TL h pl lg (srtF h.at' h.n i') + lg (srtF h.at' h.n i') + h.pace * h.dist (srtF h.at' h.n i') (srtF h.at' h.n i)) := tmS_val h.at' pl.p (thL h lg) h.n i hi
theorem TL_rng {h : HD} (hv : h.Valid) {pl : PD} {lg : Nat → Int} (hl : LgOk h lg) : ∀ (m i : Nat), i < m → i < h.n → 0 ≤ TL h pl lg (srtF h.at' h.n i) ∧ TL h pl lg (srtF h.at' h.n i) ≤ 200 + 110 * i
  | 0, i, h, _ => by omega
  | m + 1, i, hm, hi => by
    rw [TL_val hi]
    have hat := (hv.2.2 _ (srt_lt hi)).1
    rcases lastI_ok pl.p (srtF h.at' h.n) (pl.p (srtF h.at' h.n i)) i with ⟨a, _⟩ | ⟨i', a, b, _, _⟩
    · rw [a]
      simp only
      omega
    · rw [a]
      simp only
      have ih := TL_rng hv (pl := pl) hl m i' (by omega) (by omega)
      have s1 := srt_lt (h := h) (show i' < h.n by omega)
      have l1 := hl _ s1
      have m1 := (hv.2.2 _ s1).2.2
      have w0 := HD.walk_nonneg hv (srtF h.at' h.n i') (srtF h.at' h.n i)
      have w1 := HD.walk_le hv s1 (srt_lt hi)
      omega
theorem TL_all {h : HD} (hv : h.Valid) {pl : PD} {lg : Nat → Int} (hl : LgOk h lg) {x : Nat} (hx : x < h.n) : 0 ≤ TL h pl lg x ∧ TL h pl lg x ≤ 970 := by
  obtain ⟨i, hi, e⟩ := ((srtF_ok h.at' h.n).2.2 x).2 hx
  have := TL_rng hv (pl := pl) hl (i + 1) i (by omega) hi
  rw [e] at this
  have := hv.2.1
  omega
end Go.Proofs.Ytgofhjihkinknaa
/-
  HorseEnds: the end.
-/
namespace Go.Proofs.Ytgofhjihkinknaa
open Go Go.Sy Kuhn
set_option linter.unusedSimpArgs false
set_option maxRecDepth 100000
set_option maxHeartbeats 4000000
attribute [local irreducible] CallP CodeP Ent YieldP
set_option maxHeartbeats 40000000
attribute [local irreducible] HD.ch maskO

def H7 (h : HD) (y : PD) : SHeap := HD.H h ++ [some (.roa 1 y.n (BDF y))]
def H7z (h : HD) (y : PD) : SHeap := HD.H h ++ [some (.roa 1 y.n (BDF y)), some (.roc (bc h))]
noncomputable def T7z : Tm := mkT [] [(3, .ptr 2 0), (6, .bool false)] 0 (List.replicate 320 none)
theorem seg7z (h : HD) (hv : h.Valid) (y : PD) : CodeP Try.prog none 2 (sufC Try.f7 14) ⟨T7z, H7z h y, []⟩ (KRet E Try.f7 2 (.bool true) (H7 h y)) := by
  have hn := hv.2.1
  have c1 := t16 h (h.n : Nat) 0
  have e1 : HD.fol h ((h.n : Nat) : Int) 0 = (0, 2) := by
    unfold HD.fol
    rw [if_pos hv, if_neg (fun q => by
      have := inB_iff.1 q.1
      omega)]
  rw [e1] at c1
  have c2 := t22 h 221
  have e2 : HD.bus h 221 = (0, 0, 2) := by
    unfold HD.bus
    rw [if_pos hv, if_neg (fun q => by
      have := inB_iff.1 q
      omega)]
  rw [e2] at c2
  have c3 := t31p h hv true 8 (by decide)
  refine codeP_XK E_ok 100 ?_
  (repeat' (first | exact trivial | exact fun _ => rfl | exact rfl | refine And.intro ?_ ?_))
  refine c1.use [0] ?_ (by (repeat' (first | exact trivial | exact rfl | exact fun _ _ => rfl | exact fun _ _ _ _ => rfl | exact Or.inl rfl | exact Or.inr rfl | refine And.intro ?_ ?_))) rfl
  (repeat' (first | exact trivial | exact fun _ => rfl | exact rfl | refine And.intro ?_ ?_))
  refine c2.use [0] ?_ (by (repeat' (first | exact trivial | exact rfl | exact fun _ _ => rfl | exact fun _ _ _ _ => rfl | exact Or.inl rfl | exact Or.inr rfl | refine And.intro ?_ ?_))) rfl
  (repeat' (first | exact trivial | exact fun _ => rfl | exact rfl | refine And.intro ?_ ?_))
  refine c3.use [0] ?_ (by (repeat' (first | exact trivial | exact rfl | exact fun _ _ => rfl | exact fun _ _ _ _ => rfl | exact Or.inl rfl | exact Or.inr rfl | refine And.intro ?_ ?_))) rfl
  all_goals (repeat' (first | exact trivial | exact fun _ => rfl | exact rfl | refine And.intro ?_ ?_))
  all_goals first | exact True.intro | omega | exact u1 (lt64 (by omega)) | exact u0 (lt64 (by omega)) | (show under _ _; simp [under, gB, wB]; done) | (show under _ _; simp [under, gB, wB]; omega) | skip
  all_goals intro g1
  all_goals first | (exfalso; revert g1; simp [gB, wB]; done) | skip
  refine t15.use [] ?_ trivial rfl
  (repeat' (first | exact trivial | exact fun _ => rfl | exact rfl | refine And.intro ?_ ?_))
  all_goals first | exact True.intro | omega | exact u1 (lt64 (by omega)) | exact u0 (lt64 (by omega)) | (show under _ _; simp [under, gB, wB]; done) | (show under _ _; simp [under, gB, wB]; omega) | skip
  exact ent_tau [0, 1] ⟨by (repeat' (first | exact trivial | exact rfl | exact fun _ _ => rfl | exact fun _ _ _ _ => rfl | exact Or.inl rfl | exact Or.inr rfl | refine And.intro ?_ ?_)), by (repeat' (first | exact trivial | exact rfl | exact congrArg (SV.int .i64) (Int.natCast_succ _).symm | exact congrArg (SV.int .u64) (Int.natCast_succ _).symm | refine And.intro ?_ ?_)), rfl⟩
/-- A list that is no plan. -/
theorem t20b (h : HD) (hv : h.Valid) (n c : Nat) (F : Nat → Int) (hn : n ≤ 1000000) (hb : pok h ⟨n, F, true, c⟩ = false) : CallP Try.prog 20 [HD.A h, .slice 1 1 0 n c] (HD.H h ++ [some (.roa 1 n fun k => [.int .i64 (F k)])]) (Ret (.tup [.snil, .int .i64 2]) (HD.H h ++ [some (.roa 1 n fun k => [.int .i64 (F k)])])) := by
  exact CallP.argsD (args' := [HD.A h, .osl true 1 1 n c]) (fun η => by simp [den, denL]) (t20 h ⟨n, F, true, c⟩ hn _ _ (.inr (.inr ⟨hv, hb, rfl, rfl⟩)))
theorem pok_len {h : HD} {n c : Nat} {F : Nat → Int} (hn : n ≠ h.n) : pok h ⟨n, F, true, c⟩ = false := by
  unfold pok
  simp only
  rw [decide_eq_false hn]
  rfl
theorem pok_bad {h : HD} {n c : Nat} {F : Nat → Int} (hn : 0 < n) (hF : F 0 < 0 ∨ 6 < F 0) : pok h ⟨n, F, true, c⟩ = false := by
  unfold pok
  simp only
  cases e : bad F n with
  | true => cases decide (n = h.n) <;> rfl
  | false =>
    have := bad_iff.1 e 0 hn
    omega
def H7l (h : HD) (y : PD) (n0 n1 n2 c0 c1 c2 : Nat) (F0 F1 F2 : Nat → Int) : SHeap := H7z h y ++ [some (.roa 1 n0 fun k => [.int .i64 (F0 k)]), some (.roa 1 n1 fun k => [.int .i64 (F1 k)]), some (.roa 1 n2 fun k => [.int .i64 (F2 k)]), some (.roa 1 3 fun k => match k with | 0 => [.slice 3 1 0 n0 c0] | 1 => [.slice 4 1 0 n1 c1] | _ => [.slice 5 1 0 n2 c2])]
noncomputable def T7l : Tm := mkT [] [(3, .ptr 2 0), (6, .bool false), (274, .slice 6 1 0 3 3), (275, .int .i64 3), (276, .int .i64 0)] 0 (List.replicate 320 none)
end Go.Proofs.Ytgofhjihkinknaa
/-
  HorseEnds: what is no plan is refused.
-/
namespace Go.Proofs.Ytgofhjihkinknaa
open Go Go.Sy Kuhn
set_option linter.unusedSimpArgs false
set_option maxRecDepth 100000
set_option maxHeartbeats 4000000
attribute [local irreducible] CallP CodeP Ent YieldP
set_option maxHeartbeats 40000000
attribute [local irreducible] HD.ch maskO

/-- The loop over what is no plan. -/
noncomputable def blk7 : Code := match sufC Try.f7 13 with
  | .seq (.seq _ (.block _ l)) _ => l
  | _ => .skip
theorem loop7 (h : HD) (hv : h.Valid) (y : PD) (n0 n1 n2 c0 c1 c2 : Nat) (F0 F1 F2 : Nat → Int) (l0 : n0 ≤ 1000000) (l1 : n1 ≤ 1000000) (l2 : n2 ≤ 1000000) (b0 : pok h ⟨n0, F0, true, c0⟩ = false) (b1 : pok h ⟨n1, F1, true, c1⟩ = false) (b2 : pok h ⟨n2, F2, true, c2⟩ = false)
    (K : SE → Go.Sy.St → Prop) (hK : ∀ s, Ent 2 s ⟨T7z, H7z h y, []⟩ → K (.exit 6) s) :
    CodeP Try.prog none 2 blk7 ⟨T7l, H7l h y n0 n1 n2 c0 c1 c2 F0 F1 F2, []⟩ K := by
  have q0 := t20b h hv n0 c0 F0 l0 b0
  have q1 := t20b h hv n1 c1 F1 l1 b1
  have q2 := t20b h hv n2 c2 F2 l2 b2
  refine loopP E_ok [3, 6, 274, 275] (fun i : Nat => [(276, .int .i64 i)]) (fun _ _ => H7l h y n0 n1 n2 c0 c1 c2 F0 F1 F2) (fun i => i ≤ 3) (fun i => 3 - i) 0 (by omega) ?_ ?_
  · refine ent_tau [0, 1, 2, 3, 4, 5, 6] ⟨?_, by (repeat' (first | exact trivial | exact rfl | exact congrArg (SV.int .i64) (Int.natCast_succ _).symm | exact congrArg (SV.int .u64) (Int.natCast_succ _).symm | refine And.intro ?_ ?_)), rfl⟩
    (repeat' (first | exact trivial | exact rfl | exact fun _ _ => rfl | exact fun _ _ _ _ => rfl | exact Or.inl rfl | exact Or.inr rfl | refine And.intro ?_ ?_))
    (intro k hk; match k, hk with | 0, _ => rfl | 1, _ => rfl | 2, _ => rfl)
  rintro i hi
  refine And.intro ?_ (And.intro (fun hlt => ?_) (fun hlt => ?_))
  · (repeat' (first | exact trivial | exact fun _ => rfl | exact rfl | refine And.intro ?_ ?_))
  · have hlt' : i < 3 := by
      have := of_decide_eq_true hlt
      omega
    rcases (by omega : i = 0 ∨ i = 1 ∨ i = 2) with rfl | rfl | rfl
    · (repeat' (first | exact trivial | exact fun _ => rfl | exact rfl | refine And.intro ?_ ?_))
      all_goals first | exact u0 (by omega) | exact u0 (by decide) | decide | omega | skip
      refine q0.use [0, 3] ?_ (by (repeat' (first | exact trivial | exact rfl | exact fun _ _ => rfl | exact fun _ _ _ _ => rfl | exact Or.inl rfl | exact Or.inr rfl | refine And.intro ?_ ?_))) rfl
      all_goals (repeat' (first | exact trivial | exact fun _ => rfl | exact rfl | refine And.intro ?_ ?_))
      all_goals first | exact True.intro | omega | exact u1 (lt64 (by omega)) | exact u0 (lt64 (by omega)) | (show under _ _; simp [under, gB, wB]; done) | (show under _ _; simp [under, gB, wB]; omega) | skip
      all_goals intro g1
      all_goals first | (exfalso; revert g1; simp [gB, wB]; done) | skip
      (repeat' (first | exact trivial | exact fun _ => rfl | exact rfl | refine And.intro ?_ ?_))
      all_goals first | exact True.intro | omega | exact u1 (lt64 (by omega)) | exact u0 (lt64 (by omega)) | (show under _ _; simp [under, gB, wB]; done) | (show under _ _; simp [under, gB, wB]; omega) | skip
      refine ⟨1, by omega, by omega, ?_⟩
      refine ent_tau [0, 1, 2, 3, 4, 5, 6] ⟨?_, by (repeat' (first | exact trivial | exact rfl | exact congrArg (SV.int .i64) (Int.natCast_succ _).symm | exact congrArg (SV.int .u64) (Int.natCast_succ _).symm | refine And.intro ?_ ?_)), rfl⟩
      (repeat' (first | exact trivial | exact rfl | exact fun _ _ => rfl | exact fun _ _ _ _ => rfl | exact Or.inl rfl | exact Or.inr rfl | refine And.intro ?_ ?_))
      (intro k hk; match k, hk with | 0, _ => rfl | 1, _ => rfl | 2, _ => rfl)
    · (repeat' (first | exact trivial | exact fun _ => rfl | exact rfl | refine And.intro ?_ ?_))
      all_goals first | exact u0 (by omega) | exact u0 (by decide) | decide | omega | skip
      refine q1.use [0, 4] ?_ (by (repeat' (first | exact trivial | exact rfl | exact fun _ _ => rfl | exact fun _ _ _ _ => rfl | exact Or.inl rfl | exact Or.inr rfl | refine And.intro ?_ ?_))) rfl
      all_goals (repeat' (first | exact trivial | exact fun _ => rfl | exact rfl | refine And.intro ?_ ?_))
      all_goals first | exact True.intro | omega | exact u1 (lt64 (by omega)) | exact u0 (lt64 (by omega)) | (show under _ _; simp [under, gB, wB]; done) | (show under _ _; simp [under, gB, wB]; omega) | skip
      all_goals intro g1
      all_goals first | (exfalso; revert g1; simp [gB, wB]; done) | skip
      (repeat' (first | exact trivial | exact fun _ => rfl | exact rfl | refine And.intro ?_ ?_))
      all_goals first | exact True.intro | omega | exact u1 (lt64 (by omega)) | exact u0 (lt64 (by omega)) | (show under _ _; simp [under, gB, wB]; done) | (show under _ _; simp [under, gB, wB]; omega) | skip
      refine ⟨2, by omega, by omega, ?_⟩
      refine ent_tau [0, 1, 2, 3, 4, 5, 6] ⟨?_, by (repeat' (first | exact trivial | exact rfl | exact congrArg (SV.int .i64) (Int.natCast_succ _).symm | exact congrArg (SV.int .u64) (Int.natCast_succ _).symm | refine And.intro ?_ ?_)), rfl⟩
      (repeat' (first | exact trivial | exact rfl | exact fun _ _ => rfl | exact fun _ _ _ _ => rfl | exact Or.inl rfl | exact Or.inr rfl | refine And.intro ?_ ?_))
      (intro k hk; match k, hk with | 0, _ => rfl | 1, _ => rfl | 2, _ => rfl)
    · (repeat' (first | exact trivial | exact fun _ => rfl | exact rfl | refine And.intro ?_ ?_))
      all_goals first | exact u0 (by omega) | exact u0 (by decide) | decide | omega | skip
      refine q2.use [0, 5] ?_ (by (repeat' (first | exact trivial | exact rfl | exact fun _ _ => rfl | exact fun _ _ _ _ => rfl | exact Or.inl rfl | exact Or.inr rfl | refine And.intro ?_ ?_))) rfl
      all_goals (repeat' (first | exact trivial | exact fun _ => rfl | exact rfl | refine And.intro ?_ ?_))
      all_goals first | exact True.intro | omega | exact u1 (lt64 (by omega)) | exact u0 (lt64 (by omega)) | (show under _ _; simp [under, gB, wB]; done) | (show under _ _; simp [under, gB, wB]; omega) | skip
      all_goals intro g1
      all_goals first | (exfalso; revert g1; simp [gB, wB]; done) | skip
      (repeat' (first | exact trivial | exact fun _ => rfl | exact rfl | refine And.intro ?_ ?_))
      all_goals first | exact True.intro | omega | exact u1 (lt64 (by omega)) | exact u0 (lt64 (by omega)) | (show under _ _; simp [under, gB, wB]; done) | (show under _ _; simp [under, gB, wB]; omega) | skip
      refine ⟨3, by omega, by omega, ?_⟩
      refine ent_tau [0, 1, 2, 3, 4, 5, 6] ⟨?_, by (repeat' (first | exact trivial | exact rfl | exact congrArg (SV.int .i64) (Int.natCast_succ _).symm | exact congrArg (SV.int .u64) (Int.natCast_succ _).symm | refine And.intro ?_ ?_)), rfl⟩
      (repeat' (first | exact trivial | exact rfl | exact fun _ _ => rfl | exact fun _ _ _ _ => rfl | exact Or.inl rfl | exact Or.inr rfl | refine And.intro ?_ ?_))
      (intro k hk; match k, hk with | 0, _ => rfl | 1, _ => rfl | 2, _ => rfl)
  · have e : i = 3 := by
      have := of_decide_eq_false hlt
      omega
    subst e
    (repeat' (first | exact trivial | exact fun _ => rfl | exact rfl | refine And.intro ?_ ?_))
    refine hK _ ?_
    exact ent_tau [0, 1, 2] ⟨by (repeat' (first | exact trivial | exact rfl | exact fun _ _ => rfl | exact fun _ _ _ _ => rfl | exact Or.inl rfl | exact Or.inr rfl | refine And.intro ?_ ?_)), by (repeat' (first | exact trivial | exact rfl | exact congrArg (SV.int .i64) (Int.natCast_succ _).symm | exact congrArg (SV.int .u64) (Int.natCast_succ _).symm | refine And.intro ?_ ?_)), rfl⟩
end Go.Proofs.Ytgofhjihkinknaa
/-
  HorseEnds: what is no plan, made of one.
-/
namespace Go.Proofs.Ytgofhjihkinknaa
open Go Go.Sy Kuhn
set_option linter.unusedSimpArgs false
set_option maxRecDepth 100000
set_option maxHeartbeats 4000000
attribute [local irreducible] CallP CodeP Ent YieldP
set_option maxHeartbeats 80000000
attribute [local irreducible] HD.ch maskO

theorem rowL (z : Int) (F : Nat → Int) (off k : Nat) : selL (decide (k < 1)) (getOf 1 (splice (repL 1 [SV.int .i64 0]) (0 * 1) [SV.int .i64 z]) k) [SV.int .i64 (F (off + (k - 1)))] = [SV.int .i64 (if k < 1 then z else F (off + (k - 1)))] := by
  by_cases c : k < 1
  · have e : k = 0 := by omega
    subst e
    rfl
  · rw [decide_eq_false c, selL_false, if_neg c]
theorem seg7yB (h : HD) (hv : h.Valid) (y : PD) (N cap : Nat) (F : Nat → Int) (hN : N = h.n) (h0 : 0 < N) (hcap : N ≤ cap ∧ cap ≤ 9223372036854775807) :
    CodeP Try.prog none 2 (sufC Try.f7 13) ⟨mkT [] [(3, .ptr 2 0), (6, .bool false), (11, .slice 3 1 0 N cap)] 0 (List.replicate 320 none), H7z h y ++ [some (.roa 1 N fun k => [.int .i64 (F k)])], []⟩ (KRet E Try.f7 2 (.bool true) (H7 h y)) := by
  have hn := hv.2.1
  have e1 : (if ((N : Nat) : Int) < 1 then ((N : Nat) : Int) else 1) = 1 := if_neg (by omega)
  refine codeP_XK E_ok 1 ?_
  (repeat' (first | exact trivial | exact fun _ => rfl | exact rfl | refine And.intro ?_ ?_))
  refine drawP E_ok [] pl7_38 (by kernel_rfl) ?_
  (repeat' (first | exact trivial | exact fun _ => rfl | exact rfl | refine And.intro ?_ ?_))
  all_goals first | (first | omega | exact u0 (by omega) | exact u1 (by omega) | exact u1 ⟨by omega, by omega⟩ | exact un (by omega) | exact fun hh => hh | exact fun hh => absurd hh (by decide) | exact fun hh => congrArg not hh | exact fun hh => Bool.noConfusion (show true = false from hh) | exact fun hh => Bool.noConfusion (show false = true from hh)) | (show _ * 8 ≤ 140737488355328; omega) | exact fun k hk => rfl | decide | skip
  all_goals first | (rw [e1]; split <;> omega) | skip
  all_goals intro c1 a1 b1
  all_goals (repeat' (first | exact trivial | exact fun _ => rfl | exact rfl | refine And.intro ?_ ?_))
  all_goals first | (first | omega | exact u0 (by omega) | exact u1 (by omega) | exact u1 ⟨by omega, by omega⟩ | exact un (by omega) | exact fun hh => hh | exact fun hh => absurd hh (by decide) | exact fun hh => congrArg not hh | exact fun hh => Bool.noConfusion (show true = false from hh) | exact fun hh => Bool.noConfusion (show false = true from hh)) | (show _ * 8 ≤ 140737488355328; omega) | exact fun k hk => rfl | decide | skip
  all_goals first | (rw [e1]; split <;> omega) | skip
  all_goals intro c2 a2 b2
  all_goals (repeat' (first | exact trivial | exact fun _ => rfl | exact rfl | refine And.intro ?_ ?_))
  all_goals first | (first | omega | exact u0 (by omega) | exact u1 (by omega) | exact u1 ⟨by omega, by omega⟩ | exact un (by omega) | exact fun hh => hh | exact fun hh => absurd hh (by decide) | exact fun hh => congrArg not hh | exact fun hh => Bool.noConfusion (show true = false from hh) | exact fun hh => Bool.noConfusion (show false = true from hh)) | (show _ * 8 ≤ 140737488355328; omega) | exact fun k hk => rfl | decide | skip
  all_goals first | (rw [e1]; split <;> omega) | skip
  all_goals intro c3 a3 b3
  all_goals (repeat' (first | exact trivial | exact fun _ => rfl | exact rfl | refine And.intro ?_ ?_))
  all_goals first | (first | omega | exact u0 (by omega) | exact u1 (by omega) | exact u1 ⟨by omega, by omega⟩ | exact un (by omega) | exact fun hh => hh | exact fun hh => absurd hh (by decide) | exact fun hh => congrArg not hh | exact fun hh => Bool.noConfusion (show true = false from hh) | exact fun hh => Bool.noConfusion (show false = true from hh)) | (show _ * 8 ≤ 140737488355328; omega) | exact fun k hk => rfl | decide | skip
  all_goals first | (rw [e1]; split <;> omega) | skip
  · refine CodeP.pre (t := ⟨T7l, H7l h y (1 + N) (1 + (N - (if ((N : Nat) : Int) < 1 then ((N : Nat) : Int) else 1).toNat)) (1 + (N - (if ((N : Nat) : Int) < 1 then ((N : Nat) : Int) else 1).toNat)) c1 c2 c3 (fun k => if k < 1 then 0 else F (0 + (k - 1))) (fun k => if k < 1 then -1 else F ((0 + if (if ((N : Nat) : Int) < 1 then ((N : Nat) : Int) else 1).toNat = cap then 0 else (if ((N : Nat) : Int) < 1 then ((N : Nat) : Int) else 1).toNat) + (k - 1))) (fun k => if k < 1 then 7 else F ((0 + if (if ((N : Nat) : Int) < 1 then ((N : Nat) : Int) else 1).toNat = cap then 0 else (if ((N : Nat) : Int) < 1 then ((N : Nat) : Int) else 1).toNat) + (k - 1))), []⟩) (ent_tau [0, 1, 2, 5, 7, 9, 10] ⟨?_, by (repeat' (first | exact trivial | exact rfl | exact congrArg (SV.int .i64) (Int.natCast_succ _).symm | exact congrArg (SV.int .u64) (Int.natCast_succ _).symm | refine And.intro ?_ ?_)), rfl⟩) (loop7 h hv y (1 + N) (1 + (N - (if ((N : Nat) : Int) < 1 then ((N : Nat) : Int) else 1).toNat)) (1 + (N - (if ((N : Nat) : Int) < 1 then ((N : Nat) : Int) else 1).toNat)) c1 c2 c3 (fun k => if k < 1 then 0 else F (0 + (k - 1))) (fun k => if k < 1 then -1 else F ((0 + if (if ((N : Nat) : Int) < 1 then ((N : Nat) : Int) else 1).toNat = cap then 0 else (if ((N : Nat) : Int) < 1 then ((N : Nat) : Int) else 1).toNat) + (k - 1))) (fun k => if k < 1 then 7 else F ((0 + if (if ((N : Nat) : Int) < 1 then ((N : Nat) : Int) else 1).toNat = cap then 0 else (if ((N : Nat) : Int) < 1 then ((N : Nat) : Int) else 1).toNat) + (k - 1))) (by omega) (by rw [e1]; omega) (by rw [e1]; omega) (pok_len (by omega)) (pok_bad (by omega) (.inl (by simp))) (pok_bad (by omega) (.inr (by simp))) _ fun s2 he => ?_)
    · (repeat' (first | exact trivial | exact rfl | exact fun _ _ => rfl | exact fun _ _ _ _ => rfl | exact Or.inl rfl | exact Or.inr rfl | refine And.intro ?_ ?_))
      all_goals first | exact (fun k _ => rowL _ F _ k) | (intro k hk; match k, hk with | 0, _ => rfl | 1, _ => rfl | 2, _ => rfl)
    · (repeat' (first | exact trivial | exact fun _ => rfl | exact rfl | refine And.intro ?_ ?_))
      exact CodeP.part (seg7z h hv y) he
  · refine CodeP.pre (t := ⟨T7l, H7l h y (1 + N) (1 + (N - (if ((N : Nat) : Int) < 1 then ((N : Nat) : Int) else 1).toNat)) (1 + (N - (if ((N : Nat) : Int) < 1 then ((N : Nat) : Int) else 1).toNat)) c1 c2 c3 (fun k => if k < 1 then 0 else F (0 + (k - 1))) (fun k => if k < 1 then -1 else F ((0 + if (if ((N : Nat) : Int) < 1 then ((N : Nat) : Int) else 1).toNat = cap then 0 else (if ((N : Nat) : Int) < 1 then ((N : Nat) : Int) else 1).toNat) + (k - 1))) (fun k => if k < 1 then 7 else F ((0 + if (if ((N : Nat) : Int) < 1 then ((N : Nat) : Int) else 1).toNat = cap then 0 else (if ((N : Nat) : Int) < 1 then ((N : Nat) : Int) else 1).toNat) + (k - 1))), []⟩) (ent_tau [0, 1, 2, 5, 8, 9, 10] ⟨?_, by (repeat' (first | exact trivial | exact rfl | exact congrArg (SV.int .i64) (Int.natCast_succ _).symm | exact congrArg (SV.int .u64) (Int.natCast_succ _).symm | refine And.intro ?_ ?_)), rfl⟩) (loop7 h hv y (1 + N) (1 + (N - (if ((N : Nat) : Int) < 1 then ((N : Nat) : Int) else 1).toNat)) (1 + (N - (if ((N : Nat) : Int) < 1 then ((N : Nat) : Int) else 1).toNat)) c1 c2 c3 (fun k => if k < 1 then 0 else F (0 + (k - 1))) (fun k => if k < 1 then -1 else F ((0 + if (if ((N : Nat) : Int) < 1 then ((N : Nat) : Int) else 1).toNat = cap then 0 else (if ((N : Nat) : Int) < 1 then ((N : Nat) : Int) else 1).toNat) + (k - 1))) (fun k => if k < 1 then 7 else F ((0 + if (if ((N : Nat) : Int) < 1 then ((N : Nat) : Int) else 1).toNat = cap then 0 else (if ((N : Nat) : Int) < 1 then ((N : Nat) : Int) else 1).toNat) + (k - 1))) (by omega) (by rw [e1]; omega) (by rw [e1]; omega) (pok_len (by omega)) (pok_bad (by omega) (.inl (by simp))) (pok_bad (by omega) (.inr (by simp))) _ fun s2 he => ?_)
    · (repeat' (first | exact trivial | exact rfl | exact fun _ _ => rfl | exact fun _ _ _ _ => rfl | exact Or.inl rfl | exact Or.inr rfl | refine And.intro ?_ ?_))
      all_goals first | exact (fun k _ => rowL _ F _ k) | (intro k hk; match k, hk with | 0, _ => rfl | 1, _ => rfl | 2, _ => rfl)
    · (repeat' (first | exact trivial | exact fun _ => rfl | exact rfl | refine And.intro ?_ ?_))
      exact CodeP.part (seg7z h hv y) he
  · refine CodeP.pre (t := ⟨T7l, H7l h y (1 + N) (1 + (N - (if ((N : Nat) : Int) < 1 then ((N : Nat) : Int) else 1).toNat)) (1 + (N - (if ((N : Nat) : Int) < 1 then ((N : Nat) : Int) else 1).toNat)) c1 c2 c3 (fun k => if k < 1 then 0 else F (0 + (k - 1))) (fun k => if k < 1 then -1 else F ((0 + if (if ((N : Nat) : Int) < 1 then ((N : Nat) : Int) else 1).toNat = cap then 0 else (if ((N : Nat) : Int) < 1 then ((N : Nat) : Int) else 1).toNat) + (k - 1))) (fun k => if k < 1 then 7 else F ((0 + if (if ((N : Nat) : Int) < 1 then ((N : Nat) : Int) else 1).toNat = cap then 0 else (if ((N : Nat) : Int) < 1 then ((N : Nat) : Int) else 1).toNat) + (k - 1))), []⟩) (ent_tau [0, 1, 2, 5, 8, 9, 10] ⟨?_, by (repeat' (first | exact trivial | exact rfl | exact congrArg (SV.int .i64) (Int.natCast_succ _).symm | exact congrArg (SV.int .u64) (Int.natCast_succ _).symm | refine And.intro ?_ ?_)), rfl⟩) (loop7 h hv y (1 + N) (1 + (N - (if ((N : Nat) : Int) < 1 then ((N : Nat) : Int) else 1).toNat)) (1 + (N - (if ((N : Nat) : Int) < 1 then ((N : Nat) : Int) else 1).toNat)) c1 c2 c3 (fun k => if k < 1 then 0 else F (0 + (k - 1))) (fun k => if k < 1 then -1 else F ((0 + if (if ((N : Nat) : Int) < 1 then ((N : Nat) : Int) else 1).toNat = cap then 0 else (if ((N : Nat) : Int) < 1 then ((N : Nat) : Int) else 1).toNat) + (k - 1))) (fun k => if k < 1 then 7 else F ((0 + if (if ((N : Nat) : Int) < 1 then ((N : Nat) : Int) else 1).toNat = cap then 0 else (if ((N : Nat) : Int) < 1 then ((N : Nat) : Int) else 1).toNat) + (k - 1))) (by omega) (by rw [e1]; omega) (by rw [e1]; omega) (pok_len (by omega)) (pok_bad (by omega) (.inl (by simp))) (pok_bad (by omega) (.inr (by simp))) _ fun s2 he => ?_)
    · (repeat' (first | exact trivial | exact rfl | exact fun _ _ => rfl | exact fun _ _ _ _ => rfl | exact Or.inl rfl | exact Or.inr rfl | refine And.intro ?_ ?_))
      all_goals first | exact (fun k _ => rowL _ F _ k) | (intro k hk; match k, hk with | 0, _ => rfl | 1, _ => rfl | 2, _ => rfl)
    · (repeat' (first | exact trivial | exact fun _ => rfl | exact rfl | refine And.intro ?_ ?_))
      exact CodeP.part (seg7z h hv y) he
  · refine CodeP.pre (t := ⟨T7l, H7l h y (1 + N) (1 + (N - (if ((N : Nat) : Int) < 1 then ((N : Nat) : Int) else 1).toNat)) (1 + (N - (if ((N : Nat) : Int) < 1 then ((N : Nat) : Int) else 1).toNat)) c1 c2 c3 (fun k => if k < 1 then 0 else F (0 + (k - 1))) (fun k => if k < 1 then -1 else F ((0 + if (if ((N : Nat) : Int) < 1 then ((N : Nat) : Int) else 1).toNat = cap then 0 else (if ((N : Nat) : Int) < 1 then ((N : Nat) : Int) else 1).toNat) + (k - 1))) (fun k => if k < 1 then 7 else F ((0 + if (if ((N : Nat) : Int) < 1 then ((N : Nat) : Int) else 1).toNat = cap then 0 else (if ((N : Nat) : Int) < 1 then ((N : Nat) : Int) else 1).toNat) + (k - 1))), []⟩) (ent_tau [0, 1, 2, 6, 7, 9, 10] ⟨?_, by (repeat' (first | exact trivial | exact rfl | exact congrArg (SV.int .i64) (Int.natCast_succ _).symm | exact congrArg (SV.int .u64) (Int.natCast_succ _).symm | refine And.intro ?_ ?_)), rfl⟩) (loop7 h hv y (1 + N) (1 + (N - (if ((N : Nat) : Int) < 1 then ((N : Nat) : Int) else 1).toNat)) (1 + (N - (if ((N : Nat) : Int) < 1 then ((N : Nat) : Int) else 1).toNat)) c1 c2 c3 (fun k => if k < 1 then 0 else F (0 + (k - 1))) (fun k => if k < 1 then -1 else F ((0 + if (if ((N : Nat) : Int) < 1 then ((N : Nat) : Int) else 1).toNat = cap then 0 else (if ((N : Nat) : Int) < 1 then ((N : Nat) : Int) else 1).toNat) + (k - 1))) (fun k => if k < 1 then 7 else F ((0 + if (if ((N : Nat) : Int) < 1 then ((N : Nat) : Int) else 1).toNat = cap then 0 else (if ((N : Nat) : Int) < 1 then ((N : Nat) : Int) else 1).toNat) + (k - 1))) (by omega) (by rw [e1]; omega) (by rw [e1]; omega) (pok_len (by omega)) (pok_bad (by omega) (.inl (by simp))) (pok_bad (by omega) (.inr (by simp))) _ fun s2 he => ?_)
    · (repeat' (first | exact trivial | exact rfl | exact fun _ _ => rfl | exact fun _ _ _ _ => rfl | exact Or.inl rfl | exact Or.inr rfl | refine And.intro ?_ ?_))
      all_goals first | exact (fun k _ => rowL _ F _ k) | (intro k hk; match k, hk with | 0, _ => rfl | 1, _ => rfl | 2, _ => rfl)
    · (repeat' (first | exact trivial | exact fun _ => rfl | exact rfl | refine And.intro ?_ ?_))
      exact CodeP.part (seg7z h hv y) he
  · refine CodeP.pre (t := ⟨T7l, H7l h y (1 + N) (1 + (N - (if ((N : Nat) : Int) < 1 then ((N : Nat) : Int) else 1).toNat)) (1 + (N - (if ((N : Nat) : Int) < 1 then ((N : Nat) : Int) else 1).toNat)) c1 c2 c3 (fun k => if k < 1 then 0 else F (0 + (k - 1))) (fun k => if k < 1 then -1 else F ((0 + if (if ((N : Nat) : Int) < 1 then ((N : Nat) : Int) else 1).toNat = cap then 0 else (if ((N : Nat) : Int) < 1 then ((N : Nat) : Int) else 1).toNat) + (k - 1))) (fun k => if k < 1 then 7 else F ((0 + if (if ((N : Nat) : Int) < 1 then ((N : Nat) : Int) else 1).toNat = cap then 0 else (if ((N : Nat) : Int) < 1 then ((N : Nat) : Int) else 1).toNat) + (k - 1))), []⟩) (ent_tau [0, 1, 2, 6, 8, 9, 10] ⟨?_, by (repeat' (first | exact trivial | exact rfl | exact congrArg (SV.int .i64) (Int.natCast_succ _).symm | exact congrArg (SV.int .u64) (Int.natCast_succ _).symm | refine And.intro ?_ ?_)), rfl⟩) (loop7 h hv y (1 + N) (1 + (N - (if ((N : Nat) : Int) < 1 then ((N : Nat) : Int) else 1).toNat)) (1 + (N - (if ((N : Nat) : Int) < 1 then ((N : Nat) : Int) else 1).toNat)) c1 c2 c3 (fun k => if k < 1 then 0 else F (0 + (k - 1))) (fun k => if k < 1 then -1 else F ((0 + if (if ((N : Nat) : Int) < 1 then ((N : Nat) : Int) else 1).toNat = cap then 0 else (if ((N : Nat) : Int) < 1 then ((N : Nat) : Int) else 1).toNat) + (k - 1))) (fun k => if k < 1 then 7 else F ((0 + if (if ((N : Nat) : Int) < 1 then ((N : Nat) : Int) else 1).toNat = cap then 0 else (if ((N : Nat) : Int) < 1 then ((N : Nat) : Int) else 1).toNat) + (k - 1))) (by omega) (by rw [e1]; omega) (by rw [e1]; omega) (pok_len (by omega)) (pok_bad (by omega) (.inl (by simp))) (pok_bad (by omega) (.inr (by simp))) _ fun s2 he => ?_)
    · (repeat' (first | exact trivial | exact rfl | exact fun _ _ => rfl | exact fun _ _ _ _ => rfl | exact Or.inl rfl | exact Or.inr rfl | refine And.intro ?_ ?_))
      all_goals first | exact (fun k _ => rowL _ F _ k) | (intro k hk; match k, hk with | 0, _ => rfl | 1, _ => rfl | 2, _ => rfl)
    · (repeat' (first | exact trivial | exact fun _ => rfl | exact rfl | refine And.intro ?_ ?_))
      exact CodeP.part (seg7z h hv y) he
  · refine CodeP.pre (t := ⟨T7l, H7l h y (1 + N) (1 + (N - (if ((N : Nat) : Int) < 1 then ((N : Nat) : Int) else 1).toNat)) (1 + (N - (if ((N : Nat) : Int) < 1 then ((N : Nat) : Int) else 1).toNat)) c1 c2 c3 (fun k => if k < 1 then 0 else F (0 + (k - 1))) (fun k => if k < 1 then -1 else F ((0 + if (if ((N : Nat) : Int) < 1 then ((N : Nat) : Int) else 1).toNat = cap then 0 else (if ((N : Nat) : Int) < 1 then ((N : Nat) : Int) else 1).toNat) + (k - 1))) (fun k => if k < 1 then 7 else F ((0 + if (if ((N : Nat) : Int) < 1 then ((N : Nat) : Int) else 1).toNat = cap then 0 else (if ((N : Nat) : Int) < 1 then ((N : Nat) : Int) else 1).toNat) + (k - 1))), []⟩) (ent_tau [0, 1, 2, 7, 8, 9, 10] ⟨?_, by (repeat' (first | exact trivial | exact rfl | exact congrArg (SV.int .i64) (Int.natCast_succ _).symm | exact congrArg (SV.int .u64) (Int.natCast_succ _).symm | refine And.intro ?_ ?_)), rfl⟩) (loop7 h hv y (1 + N) (1 + (N - (if ((N : Nat) : Int) < 1 then ((N : Nat) : Int) else 1).toNat)) (1 + (N - (if ((N : Nat) : Int) < 1 then ((N : Nat) : Int) else 1).toNat)) c1 c2 c3 (fun k => if k < 1 then 0 else F (0 + (k - 1))) (fun k => if k < 1 then -1 else F ((0 + if (if ((N : Nat) : Int) < 1 then ((N : Nat) : Int) else 1).toNat = cap then 0 else (if ((N : Nat) : Int) < 1 then ((N : Nat) : Int) else 1).toNat) + (k - 1))) (fun k => if k < 1 then 7 else F ((0 + if (if ((N : Nat) : Int) < 1 then ((N : Nat) : Int) else 1).toNat = cap then 0 else (if ((N : Nat) : Int) < 1 then ((N : Nat) : Int) else 1).toNat) + (k - 1))) (by omega) (by rw [e1]; omega) (by rw [e1]; omega) (pok_len (by omega)) (pok_bad (by omega) (.inl (by simp))) (pok_bad (by omega) (.inr (by simp))) _ fun s2 he => ?_)
    · (repeat' (first | exact trivial | exact rfl | exact fun _ _ => rfl | exact fun _ _ _ _ => rfl | exact Or.inl rfl | exact Or.inr rfl | refine And.intro ?_ ?_))
      all_goals first | exact (fun k _ => rowL _ F _ k) | (intro k hk; match k, hk with | 0, _ => rfl | 1, _ => rfl | 2, _ => rfl)
    · (repeat' (first | exact trivial | exact fun _ => rfl | exact rfl | refine And.intro ?_ ?_))
      exact CodeP.part (seg7z h hv y) he
  · refine CodeP.pre (t := ⟨T7l, H7l h y (1 + N) (1 + (N - (if ((N : Nat) : Int) < 1 then ((N : Nat) : Int) else 1).toNat)) (1 + (N - (if ((N : Nat) : Int) < 1 then ((N : Nat) : Int) else 1).toNat)) c1 c2 c3 (fun k => if k < 1 then 0 else F (0 + (k - 1))) (fun k => if k < 1 then -1 else F ((0 + if (if ((N : Nat) : Int) < 1 then ((N : Nat) : Int) else 1).toNat = cap then 0 else (if ((N : Nat) : Int) < 1 then ((N : Nat) : Int) else 1).toNat) + (k - 1))) (fun k => if k < 1 then 7 else F ((0 + if (if ((N : Nat) : Int) < 1 then ((N : Nat) : Int) else 1).toNat = cap then 0 else (if ((N : Nat) : Int) < 1 then ((N : Nat) : Int) else 1).toNat) + (k - 1))), []⟩) (ent_tau [0, 1, 2, 6, 8, 9, 10] ⟨?_, by (repeat' (first | exact trivial | exact rfl | exact congrArg (SV.int .i64) (Int.natCast_succ _).symm | exact congrArg (SV.int .u64) (Int.natCast_succ _).symm | refine And.intro ?_ ?_)), rfl⟩) (loop7 h hv y (1 + N) (1 + (N - (if ((N : Nat) : Int) < 1 then ((N : Nat) : Int) else 1).toNat)) (1 + (N - (if ((N : Nat) : Int) < 1 then ((N : Nat) : Int) else 1).toNat)) c1 c2 c3 (fun k => if k < 1 then 0 else F (0 + (k - 1))) (fun k => if k < 1 then -1 else F ((0 + if (if ((N : Nat) : Int) < 1 then ((N : Nat) : Int) else 1).toNat = cap then 0 else (if ((N : Nat) : Int) < 1 then ((N : Nat) : Int) else 1).toNat) + (k - 1))) (fun k => if k < 1 then 7 else F ((0 + if (if ((N : Nat) : Int) < 1 then ((N : Nat) : Int) else 1).toNat = cap then 0 else (if ((N : Nat) : Int) < 1 then ((N : Nat) : Int) else 1).toNat) + (k - 1))) (by omega) (by rw [e1]; omega) (by rw [e1]; omega) (pok_len (by omega)) (pok_bad (by omega) (.inl (by simp))) (pok_bad (by omega) (.inr (by simp))) _ fun s2 he => ?_)
    · (repeat' (first | exact trivial | exact rfl | exact fun _ _ => rfl | exact fun _ _ _ _ => rfl | exact Or.inl rfl | exact Or.inr rfl | refine And.intro ?_ ?_))
      all_goals first | exact (fun k _ => rowL _ F _ k) | (intro k hk; match k, hk with | 0, _ => rfl | 1, _ => rfl | 2, _ => rfl)
    · (repeat' (first | exact trivial | exact fun _ => rfl | exact rfl | refine And.intro ?_ ?_))
      exact CodeP.part (seg7z h hv y) he
  · refine CodeP.pre (t := ⟨T7l, H7l h y (1 + N) (1 + (N - (if ((N : Nat) : Int) < 1 then ((N : Nat) : Int) else 1).toNat)) (1 + (N - (if ((N : Nat) : Int) < 1 then ((N : Nat) : Int) else 1).toNat)) c1 c2 c3 (fun k => if k < 1 then 0 else F (0 + (k - 1))) (fun k => if k < 1 then -1 else F ((0 + if (if ((N : Nat) : Int) < 1 then ((N : Nat) : Int) else 1).toNat = cap then 0 else (if ((N : Nat) : Int) < 1 then ((N : Nat) : Int) else 1).toNat) + (k - 1))) (fun k => if k < 1 then 7 else F ((0 + if (if ((N : Nat) : Int) < 1 then ((N : Nat) : Int) else 1).toNat = cap then 0 else (if ((N : Nat) : Int) < 1 then ((N : Nat) : Int) else 1).toNat) + (k - 1))), []⟩) (ent_tau [0, 1, 2, 7, 8, 9, 10] ⟨?_, by (repeat' (first | exact trivial | exact rfl | exact congrArg (SV.int .i64) (Int.natCast_succ _).symm | exact congrArg (SV.int .u64) (Int.natCast_succ _).symm | refine And.intro ?_ ?_)), rfl⟩) (loop7 h hv y (1 + N) (1 + (N - (if ((N : Nat) : Int) < 1 then ((N : Nat) : Int) else 1).toNat)) (1 + (N - (if ((N : Nat) : Int) < 1 then ((N : Nat) : Int) else 1).toNat)) c1 c2 c3 (fun k => if k < 1 then 0 else F (0 + (k - 1))) (fun k => if k < 1 then -1 else F ((0 + if (if ((N : Nat) : Int) < 1 then ((N : Nat) : Int) else 1).toNat = cap then 0 else (if ((N : Nat) : Int) < 1 then ((N : Nat) : Int) else 1).toNat) + (k - 1))) (fun k => if k < 1 then 7 else F ((0 + if (if ((N : Nat) : Int) < 1 then ((N : Nat) : Int) else 1).toNat = cap then 0 else (if ((N : Nat) : Int) < 1 then ((N : Nat) : Int) else 1).toNat) + (k - 1))) (by omega) (by rw [e1]; omega) (by rw [e1]; omega) (pok_len (by omega)) (pok_bad (by omega) (.inl (by simp))) (pok_bad (by omega) (.inr (by simp))) _ fun s2 he => ?_)
    · (repeat' (first | exact trivial | exact rfl | exact fun _ _ => rfl | exact fun _ _ _ _ => rfl | exact Or.inl rfl | exact Or.inr rfl | refine And.intro ?_ ?_))
      all_goals first | exact (fun k _ => rowL _ F _ k) | (intro k hk; match k, hk with | 0, _ => rfl | 1, _ => rfl | 2, _ => rfl)
    · (repeat' (first | exact trivial | exact fun _ => rfl | exact rfl | refine And.intro ?_ ?_))
      exact CodeP.part (seg7z h hv y) he
  · refine CodeP.pre (t := ⟨T7l, H7l h y (1 + N) (1 + (N - (if ((N : Nat) : Int) < 1 then ((N : Nat) : Int) else 1).toNat)) (1 + (N - (if ((N : Nat) : Int) < 1 then ((N : Nat) : Int) else 1).toNat)) c1 c2 c3 (fun k => if k < 1 then 0 else F (0 + (k - 1))) (fun k => if k < 1 then -1 else F ((0 + if (if ((N : Nat) : Int) < 1 then ((N : Nat) : Int) else 1).toNat = cap then 0 else (if ((N : Nat) : Int) < 1 then ((N : Nat) : Int) else 1).toNat) + (k - 1))) (fun k => if k < 1 then 7 else F ((0 + if (if ((N : Nat) : Int) < 1 then ((N : Nat) : Int) else 1).toNat = cap then 0 else (if ((N : Nat) : Int) < 1 then ((N : Nat) : Int) else 1).toNat) + (k - 1))), []⟩) (ent_tau [0, 1, 2, 6, 7, 9, 10] ⟨?_, by (repeat' (first | exact trivial | exact rfl | exact congrArg (SV.int .i64) (Int.natCast_succ _).symm | exact congrArg (SV.int .u64) (Int.natCast_succ _).symm | refine And.intro ?_ ?_)), rfl⟩) (loop7 h hv y (1 + N) (1 + (N - (if ((N : Nat) : Int) < 1 then ((N : Nat) : Int) else 1).toNat)) (1 + (N - (if ((N : Nat) : Int) < 1 then ((N : Nat) : Int) else 1).toNat)) c1 c2 c3 (fun k => if k < 1 then 0 else F (0 + (k - 1))) (fun k => if k < 1 then -1 else F ((0 + if (if ((N : Nat) : Int) < 1 then ((N : Nat) : Int) else 1).toNat = cap then 0 else (if ((N : Nat) : Int) < 1 then ((N : Nat) : Int) else 1).toNat) + (k - 1))) (fun k => if k < 1 then 7 else F ((0 + if (if ((N : Nat) : Int) < 1 then ((N : Nat) : Int) else 1).toNat = cap then 0 else (if ((N : Nat) : Int) < 1 then ((N : Nat) : Int) else 1).toNat) + (k - 1))) (by omega) (by rw [e1]; omega) (by rw [e1]; omega) (pok_len (by omega)) (pok_bad (by omega) (.inl (by simp))) (pok_bad (by omega) (.inr (by simp))) _ fun s2 he => ?_)
    · (repeat' (first | exact trivial | exact rfl | exact fun _ _ => rfl | exact fun _ _ _ _ => rfl | exact Or.inl rfl | exact Or.inr rfl | refine And.intro ?_ ?_))
      all_goals first | exact (fun k _ => rowL _ F _ k) | (intro k hk; match k, hk with | 0, _ => rfl | 1, _ => rfl | 2, _ => rfl)
    · (repeat' (first | exact trivial | exact fun _ => rfl | exact rfl | refine And.intro ?_ ?_))
      exact CodeP.part (seg7z h hv y) he
  · refine CodeP.pre (t := ⟨T7l, H7l h y (1 + N) (1 + (N - (if ((N : Nat) : Int) < 1 then ((N : Nat) : Int) else 1).toNat)) (1 + (N - (if ((N : Nat) : Int) < 1 then ((N : Nat) : Int) else 1).toNat)) c1 c2 c3 (fun k => if k < 1 then 0 else F (0 + (k - 1))) (fun k => if k < 1 then -1 else F ((0 + if (if ((N : Nat) : Int) < 1 then ((N : Nat) : Int) else 1).toNat = cap then 0 else (if ((N : Nat) : Int) < 1 then ((N : Nat) : Int) else 1).toNat) + (k - 1))) (fun k => if k < 1 then 7 else F ((0 + if (if ((N : Nat) : Int) < 1 then ((N : Nat) : Int) else 1).toNat = cap then 0 else (if ((N : Nat) : Int) < 1 then ((N : Nat) : Int) else 1).toNat) + (k - 1))), []⟩) (ent_tau [0, 1, 2, 6, 8, 9, 10] ⟨?_, by (repeat' (first | exact trivial | exact rfl | exact congrArg (SV.int .i64) (Int.natCast_succ _).symm | exact congrArg (SV.int .u64) (Int.natCast_succ _).symm | refine And.intro ?_ ?_)), rfl⟩) (loop7 h hv y (1 + N) (1 + (N - (if ((N : Nat) : Int) < 1 then ((N : Nat) : Int) else 1).toNat)) (1 + (N - (if ((N : Nat) : Int) < 1 then ((N : Nat) : Int) else 1).toNat)) c1 c2 c3 (fun k => if k < 1 then 0 else F (0 + (k - 1))) (fun k => if k < 1 then -1 else F ((0 + if (if ((N : Nat) : Int) < 1 then ((N : Nat) : Int) else 1).toNat = cap then 0 else (if ((N : Nat) : Int) < 1 then ((N : Nat) : Int) else 1).toNat) + (k - 1))) (fun k => if k < 1 then 7 else F ((0 + if (if ((N : Nat) : Int) < 1 then ((N : Nat) : Int) else 1).toNat = cap then 0 else (if ((N : Nat) : Int) < 1 then ((N : Nat) : Int) else 1).toNat) + (k - 1))) (by omega) (by rw [e1]; omega) (by rw [e1]; omega) (pok_len (by omega)) (pok_bad (by omega) (.inl (by simp))) (pok_bad (by omega) (.inr (by simp))) _ fun s2 he => ?_)
    · (repeat' (first | exact trivial | exact rfl | exact fun _ _ => rfl | exact fun _ _ _ _ => rfl | exact Or.inl rfl | exact Or.inr rfl | refine And.intro ?_ ?_))
      all_goals first | exact (fun k _ => rowL _ F _ k) | (intro k hk; match k, hk with | 0, _ => rfl | 1, _ => rfl | 2, _ => rfl)
    · (repeat' (first | exact trivial | exact fun _ => rfl | exact rfl | refine And.intro ?_ ?_))
      exact CodeP.part (seg7z h hv y) he
  · refine CodeP.pre (t := ⟨T7l, H7l h y (1 + N) (1 + (N - (if ((N : Nat) : Int) < 1 then ((N : Nat) : Int) else 1).toNat)) (1 + (N - (if ((N : Nat) : Int) < 1 then ((N : Nat) : Int) else 1).toNat)) c1 c2 c3 (fun k => if k < 1 then 0 else F (0 + (k - 1))) (fun k => if k < 1 then -1 else F ((0 + if (if ((N : Nat) : Int) < 1 then ((N : Nat) : Int) else 1).toNat = cap then 0 else (if ((N : Nat) : Int) < 1 then ((N : Nat) : Int) else 1).toNat) + (k - 1))) (fun k => if k < 1 then 7 else F ((0 + if (if ((N : Nat) : Int) < 1 then ((N : Nat) : Int) else 1).toNat = cap then 0 else (if ((N : Nat) : Int) < 1 then ((N : Nat) : Int) else 1).toNat) + (k - 1))), []⟩) (ent_tau [0, 1, 2, 7, 8, 9, 10] ⟨?_, by (repeat' (first | exact trivial | exact rfl | exact congrArg (SV.int .i64) (Int.natCast_succ _).symm | exact congrArg (SV.int .u64) (Int.natCast_succ _).symm | refine And.intro ?_ ?_)), rfl⟩) (loop7 h hv y (1 + N) (1 + (N - (if ((N : Nat) : Int) < 1 then ((N : Nat) : Int) else 1).toNat)) (1 + (N - (if ((N : Nat) : Int) < 1 then ((N : Nat) : Int) else 1).toNat)) c1 c2 c3 (fun k => if k < 1 then 0 else F (0 + (k - 1))) (fun k => if k < 1 then -1 else F ((0 + if (if ((N : Nat) : Int) < 1 then ((N : Nat) : Int) else 1).toNat = cap then 0 else (if ((N : Nat) : Int) < 1 then ((N : Nat) : Int) else 1).toNat) + (k - 1))) (fun k => if k < 1 then 7 else F ((0 + if (if ((N : Nat) : Int) < 1 then ((N : Nat) : Int) else 1).toNat = cap then 0 else (if ((N : Nat) : Int) < 1 then ((N : Nat) : Int) else 1).toNat) + (k - 1))) (by omega) (by rw [e1]; omega) (by rw [e1]; omega) (pok_len (by omega)) (pok_bad (by omega) (.inl (by simp))) (pok_bad (by omega) (.inr (by simp))) _ fun s2 he => ?_)
    · (repeat' (first | exact trivial | exact rfl | exact fun _ _ => rfl | exact fun _ _ _ _ => rfl | exact Or.inl rfl | exact Or.inr rfl | refine And.intro ?_ ?_))
      all_goals first | exact (fun k _ => rowL _ F _ k) | (intro k hk; match k, hk with | 0, _ => rfl | 1, _ => rfl | 2, _ => rfl)
    · (repeat' (first | exact trivial | exact fun _ => rfl | exact rfl | refine And.intro ?_ ?_))
      exact CodeP.part (seg7z h hv y) he
  · refine CodeP.pre (t := ⟨T7l, H7l h y (1 + N) (1 + (N - (if ((N : Nat) : Int) < 1 then ((N : Nat) : Int) else 1).toNat)) (1 + (N - (if ((N : Nat) : Int) < 1 then ((N : Nat) : Int) else 1).toNat)) c1 c2 c3 (fun k => if k < 1 then 0 else F (0 + (k - 1))) (fun k => if k < 1 then -1 else F ((0 + if (if ((N : Nat) : Int) < 1 then ((N : Nat) : Int) else 1).toNat = cap then 0 else (if ((N : Nat) : Int) < 1 then ((N : Nat) : Int) else 1).toNat) + (k - 1))) (fun k => if k < 1 then 7 else F ((0 + if (if ((N : Nat) : Int) < 1 then ((N : Nat) : Int) else 1).toNat = cap then 0 else (if ((N : Nat) : Int) < 1 then ((N : Nat) : Int) else 1).toNat) + (k - 1))), []⟩) (ent_tau [0, 1, 2, 7, 8, 9, 10] ⟨?_, by (repeat' (first | exact trivial | exact rfl | exact congrArg (SV.int .i64) (Int.natCast_succ _).symm | exact congrArg (SV.int .u64) (Int.natCast_succ _).symm | refine And.intro ?_ ?_)), rfl⟩) (loop7 h hv y (1 + N) (1 + (N - (if ((N : Nat) : Int) < 1 then ((N : Nat) : Int) else 1).toNat)) (1 + (N - (if ((N : Nat) : Int) < 1 then ((N : Nat) : Int) else 1).toNat)) c1 c2 c3 (fun k => if k < 1 then 0 else F (0 + (k - 1))) (fun k => if k < 1 then -1 else F ((0 + if (if ((N : Nat) : Int) < 1 then ((N : Nat) : Int) else 1).toNat = cap then 0 else (if ((N : Nat) : Int) < 1 then ((N : Nat) : Int) else 1).toNat) + (k - 1))) (fun k => if k < 1 then 7 else F ((0 + if (if ((N : Nat) : Int) < 1 then ((N : Nat) : Int) else 1).toNat = cap then 0 else (if ((N : Nat) : Int) < 1 then ((N : Nat) : Int) else 1).toNat) + (k - 1))) (by omega) (by rw [e1]; omega) (by rw [e1]; omega) (pok_len (by omega)) (pok_bad (by omega) (.inl (by simp))) (pok_bad (by omega) (.inr (by simp))) _ fun s2 he => ?_)
    · (repeat' (first | exact trivial | exact rfl | exact fun _ _ => rfl | exact fun _ _ _ _ => rfl | exact Or.inl rfl | exact Or.inr rfl | refine And.intro ?_ ?_))
      all_goals first | exact (fun k _ => rowL _ F _ k) | (intro k hk; match k, hk with | 0, _ => rfl | 1, _ => rfl | 2, _ => rfl)
    · (repeat' (first | exact trivial | exact fun _ => rfl | exact rfl | refine And.intro ?_ ?_))
      exact CodeP.part (seg7z h hv y) he
  · refine CodeP.pre (t := ⟨T7l, H7l h y (1 + N) (1 + (N - (if ((N : Nat) : Int) < 1 then ((N : Nat) : Int) else 1).toNat)) (1 + (N - (if ((N : Nat) : Int) < 1 then ((N : Nat) : Int) else 1).toNat)) c1 c2 c3 (fun k => if k < 1 then 0 else F (0 + (k - 1))) (fun k => if k < 1 then -1 else F ((0 + if (if ((N : Nat) : Int) < 1 then ((N : Nat) : Int) else 1).toNat = cap then 0 else (if ((N : Nat) : Int) < 1 then ((N : Nat) : Int) else 1).toNat) + (k - 1))) (fun k => if k < 1 then 7 else F ((0 + if (if ((N : Nat) : Int) < 1 then ((N : Nat) : Int) else 1).toNat = cap then 0 else (if ((N : Nat) : Int) < 1 then ((N : Nat) : Int) else 1).toNat) + (k - 1))), []⟩) (ent_tau [0, 1, 2, 6, 8, 9, 10] ⟨?_, by (repeat' (first | exact trivial | exact rfl | exact congrArg (SV.int .i64) (Int.natCast_succ _).symm | exact congrArg (SV.int .u64) (Int.natCast_succ _).symm | refine And.intro ?_ ?_)), rfl⟩) (loop7 h hv y (1 + N) (1 + (N - (if ((N : Nat) : Int) < 1 then ((N : Nat) : Int) else 1).toNat)) (1 + (N - (if ((N : Nat) : Int) < 1 then ((N : Nat) : Int) else 1).toNat)) c1 c2 c3 (fun k => if k < 1 then 0 else F (0 + (k - 1))) (fun k => if k < 1 then -1 else F ((0 + if (if ((N : Nat) : Int) < 1 then ((N : Nat) : Int) else 1).toNat = cap then 0 else (if ((N : Nat) : Int) < 1 then ((N : Nat) : Int) else 1).toNat) + (k - 1))) (fun k => if k < 1 then 7 else F ((0 + if (if ((N : Nat) : Int) < 1 then ((N : Nat) : Int) else 1).toNat = cap then 0 else (if ((N : Nat) : Int) < 1 then ((N : Nat) : Int) else 1).toNat) + (k - 1))) (by omega) (by rw [e1]; omega) (by rw [e1]; omega) (pok_len (by omega)) (pok_bad (by omega) (.inl (by simp))) (pok_bad (by omega) (.inr (by simp))) _ fun s2 he => ?_)
    · (repeat' (first | exact trivial | exact rfl | exact fun _ _ => rfl | exact fun _ _ _ _ => rfl | exact Or.inl rfl | exact Or.inr rfl | refine And.intro ?_ ?_))
      all_goals first | exact (fun k _ => rowL _ F _ k) | (intro k hk; match k, hk with | 0, _ => rfl | 1, _ => rfl | 2, _ => rfl)
    · (repeat' (first | exact trivial | exact fun _ => rfl | exact rfl | refine And.intro ?_ ?_))
      exact CodeP.part (seg7z h hv y) he
  · refine CodeP.pre (t := ⟨T7l, H7l h y (1 + N) (1 + (N - (if ((N : Nat) : Int) < 1 then ((N : Nat) : Int) else 1).toNat)) (1 + (N - (if ((N : Nat) : Int) < 1 then ((N : Nat) : Int) else 1).toNat)) c1 c2 c3 (fun k => if k < 1 then 0 else F (0 + (k - 1))) (fun k => if k < 1 then -1 else F ((0 + if (if ((N : Nat) : Int) < 1 then ((N : Nat) : Int) else 1).toNat = cap then 0 else (if ((N : Nat) : Int) < 1 then ((N : Nat) : Int) else 1).toNat) + (k - 1))) (fun k => if k < 1 then 7 else F ((0 + if (if ((N : Nat) : Int) < 1 then ((N : Nat) : Int) else 1).toNat = cap then 0 else (if ((N : Nat) : Int) < 1 then ((N : Nat) : Int) else 1).toNat) + (k - 1))), []⟩) (ent_tau [0, 1, 2, 7, 8, 9, 10] ⟨?_, by (repeat' (first | exact trivial | exact rfl | exact congrArg (SV.int .i64) (Int.natCast_succ _).symm | exact congrArg (SV.int .u64) (Int.natCast_succ _).symm | refine And.intro ?_ ?_)), rfl⟩) (loop7 h hv y (1 + N) (1 + (N - (if ((N : Nat) : Int) < 1 then ((N : Nat) : Int) else 1).toNat)) (1 + (N - (if ((N : Nat) : Int) < 1 then ((N : Nat) : Int) else 1).toNat)) c1 c2 c3 (fun k => if k < 1 then 0 else F (0 + (k - 1))) (fun k => if k < 1 then -1 else F ((0 + if (if ((N : Nat) : Int) < 1 then ((N : Nat) : Int) else 1).toNat = cap then 0 else (if ((N : Nat) : Int) < 1 then ((N : Nat) : Int) else 1).toNat) + (k - 1))) (fun k => if k < 1 then 7 else F ((0 + if (if ((N : Nat) : Int) < 1 then ((N : Nat) : Int) else 1).toNat = cap then 0 else (if ((N : Nat) : Int) < 1 then ((N : Nat) : Int) else 1).toNat) + (k - 1))) (by omega) (by rw [e1]; omega) (by rw [e1]; omega) (pok_len (by omega)) (pok_bad (by omega) (.inl (by simp))) (pok_bad (by omega) (.inr (by simp))) _ fun s2 he => ?_)
    · (repeat' (first | exact trivial | exact rfl | exact fun _ _ => rfl | exact fun _ _ _ _ => rfl | exact Or.inl rfl | exact Or.inr rfl | refine And.intro ?_ ?_))
      all_goals first | exact (fun k _ => rowL _ F _ k) | (intro k hk; match k, hk with | 0, _ => rfl | 1, _ => rfl | 2, _ => rfl)
    · (repeat' (first | exact trivial | exact fun _ => rfl | exact rfl | refine And.intro ?_ ?_))
      exact CodeP.part (seg7z h hv y) he
  · refine CodeP.pre (t := ⟨T7l, H7l h y (1 + N) (1 + (N - (if ((N : Nat) : Int) < 1 then ((N : Nat) : Int) else 1).toNat)) (1 + (N - (if ((N : Nat) : Int) < 1 then ((N : Nat) : Int) else 1).toNat)) c1 c2 c3 (fun k => if k < 1 then 0 else F (0 + (k - 1))) (fun k => if k < 1 then -1 else F ((0 + if (if ((N : Nat) : Int) < 1 then ((N : Nat) : Int) else 1).toNat = cap then 0 else (if ((N : Nat) : Int) < 1 then ((N : Nat) : Int) else 1).toNat) + (k - 1))) (fun k => if k < 1 then 7 else F ((0 + if (if ((N : Nat) : Int) < 1 then ((N : Nat) : Int) else 1).toNat = cap then 0 else (if ((N : Nat) : Int) < 1 then ((N : Nat) : Int) else 1).toNat) + (k - 1))), []⟩) (ent_tau [0, 1, 2, 7, 8, 9, 10] ⟨?_, by (repeat' (first | exact trivial | exact rfl | exact congrArg (SV.int .i64) (Int.natCast_succ _).symm | exact congrArg (SV.int .u64) (Int.natCast_succ _).symm | refine And.intro ?_ ?_)), rfl⟩) (loop7 h hv y (1 + N) (1 + (N - (if ((N : Nat) : Int) < 1 then ((N : Nat) : Int) else 1).toNat)) (1 + (N - (if ((N : Nat) : Int) < 1 then ((N : Nat) : Int) else 1).toNat)) c1 c2 c3 (fun k => if k < 1 then 0 else F (0 + (k - 1))) (fun k => if k < 1 then -1 else F ((0 + if (if ((N : Nat) : Int) < 1 then ((N : Nat) : Int) else 1).toNat = cap then 0 else (if ((N : Nat) : Int) < 1 then ((N : Nat) : Int) else 1).toNat) + (k - 1))) (fun k => if k < 1 then 7 else F ((0 + if (if ((N : Nat) : Int) < 1 then ((N : Nat) : Int) else 1).toNat = cap then 0 else (if ((N : Nat) : Int) < 1 then ((N : Nat) : Int) else 1).toNat) + (k - 1))) (by omega) (by rw [e1]; omega) (by rw [e1]; omega) (pok_len (by omega)) (pok_bad (by omega) (.inl (by simp))) (pok_bad (by omega) (.inr (by simp))) _ fun s2 he => ?_)
    · (repeat' (first | exact trivial | exact rfl | exact fun _ _ => rfl | exact fun _ _ _ _ => rfl | exact Or.inl rfl | exact Or.inr rfl | refine And.intro ?_ ?_))
      all_goals first | exact (fun k _ => rowL _ F _ k) | (intro k hk; match k, hk with | 0, _ => rfl | 1, _ => rfl | 2, _ => rfl)
    · (repeat' (first | exact trivial | exact fun _ => rfl | exact rfl | refine And.intro ?_ ?_))
      exact CodeP.part (seg7z h hv y) he
end Go.Proofs.Ytgofhjihkinknaa
