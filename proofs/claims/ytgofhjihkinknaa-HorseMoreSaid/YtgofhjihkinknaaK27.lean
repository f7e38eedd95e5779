/-
  Parts: Sf.
-/
import Derived.Test.YtgofhjihkinknaaK26
set_option linter.unusedVariables false
/-
  HorseMore: the beginning.
-/
namespace Go.Proofs.Ytgofhjihkinknaa
open Go Go.Sy Kuhn
set_option linter.unusedSimpArgs false
set_option maxRecDepth 100000
set_option maxHeartbeats 4000000
attribute [local irreducible] CallP CodeP Ent YieldP
set_option maxHeartbeats 40000000
attribute [local irreducible] HD.ch maskO

theorem seg12b1 (h : HD) (hv : h.Valid) (cap : Nat) (y : PD) (hy : BOk y) (hyn : y.n ≤ 9223372036854775807) (w nb : Int) (hw : 0 ≤ w ∧ w ≤ 255) (hnb : 0 ≤ nb ∧ nb ≤ 255) (N : Nat) (hN : N = h.n) :
    CodeP Try.prog none 2 (sufC Try.f12 11) ⟨T12c h y w nb, HD.H h ++ [some (.roa 1 y.n (BDF y)), some (.roc (bc h)), some (.cells [.int .i64 h.pace, .snil]), some (.cells [.int .i64 h.pace, .slice 5 4 0 N cap]), some (.arr 4 N cap (HD.F h))], []⟩ (KRet E Try.f12 2 (.bool true) (H12 h y)) := by
  subst hN
  exact seg12b h hv cap y hy hyn w nb hw hnb
theorem seg12a (h : HD) (hv : h.Valid) (y : PD) (hy : BOk y) (hyn : y.n ≤ 9223372036854775807) (w nb : Int) (hw : 0 ≤ w ∧ w ≤ 255) (hnb : 0 ≤ nb ∧ nb ≤ 255) :
    CodeP Try.prog none 2 (sufC Try.f12 10) ⟨T12c h y w nb, HD.H h ++ [some (.roa 1 y.n (BDF y)), some (.roc (bc h)), some (.cells (bc h)), some (.cells (bc h))], []⟩ (KRet E Try.f12 2 (.bool true) (H12 h y)) := by
  have hn := hv.2.1
  refine codeP_XK E_ok 1 ?_
  (repeat' (first | exact trivial | exact fun _ => rfl | exact rfl | refine And.intro ?_ ?_))
  all_goals first | (first | omega | exact u0 (by omega) | exact u1 (by omega) | exact u1 ⟨by omega, by omega⟩ | exact un (by omega) | exact fun hh => hh | exact fun hh => absurd hh (by decide) | exact fun hh => congrArg not hh | exact fun hh => Bool.noConfusion (show true = false from hh) | exact fun hh => Bool.noConfusion (show false = true from hh)) | (show _ * 32 ≤ 140737488355328; omega) | exact fun k hk => rfl | skip
  intro cap h1 h2
  (repeat' (first | exact trivial | exact fun _ => rfl | exact rfl | refine And.intro ?_ ?_))
  refine CodeP.part (seg12b1 h hv cap y hy hyn w nb hw hnb (0 + h.n) (Nat.zero_add _)) ?_
  refine ent_tau [0, 1, 2, 3, 4, 6] ⟨?_, by (repeat' (first | exact trivial | exact rfl | exact congrArg (SV.int .i64) (Int.natCast_succ _).symm | exact congrArg (SV.int .u64) (Int.natCast_succ _).symm | refine And.intro ?_ ?_)), rfl⟩
  (repeat' (first | exact trivial | exact rfl | exact fun _ _ => rfl | exact fun _ _ _ _ => rfl | exact Or.inl rfl | exact Or.inr rfl | refine And.intro ?_ ?_))
  intro k hk
  show selL (decide (k < 0)) _ (HD.F h (0 + (k - 0))) = HD.F h k
  rw [decide_eq_false (by omega), selL_false, Nat.sub_zero, Nat.zero_add]
noncomputable def T12a (h : HD) (y : PD) (w nb : Int) : Tm := mkT [] [(1, .osl y.b 1 1 y.n y.cap), (2, .int .u8 w), (3, .int .u8 nb), (4, .ptr 2 0), (8, .bool false), (10, .int .i64 (h.few true : Nat))] 0 (List.replicate 320 none)
theorem seg12 (h : HD) (hv : h.Valid) (y : PD) (hy : BOk y) (hyn : y.n ≤ 9223372036854775807) (w nb : Int) (hw : 0 ≤ w ∧ w ≤ 255) (hnb : 0 ≤ nb ∧ nb ≤ 255) :
    CodeP Try.prog none 2 (sufC Try.f12 9) ⟨T12a h y w nb, HD.H h ++ [some (.roa 1 y.n (BDF y)), some (.roc (bc h))], []⟩ (KRet E Try.f12 2 (.bool true) (H12 h y)) := by
  have seg := seg12a h hv y hy hyn w nb hw hnb
  refine codeP_XK E_ok 1 ?_
  (repeat' (first | exact trivial | exact fun _ => rfl | exact rfl | refine And.intro ?_ ?_))
  refine drawP E_ok [] pl12_11 (by kernel_rfl) ?_
  (repeat' (first | exact trivial | exact fun _ => rfl | exact rfl | refine And.intro ?_ ?_))
  all_goals refine CodeP.part seg ?_
  · exact ent_tau [0, 1, 2, 3, 4] ⟨by (repeat' (first | exact trivial | exact rfl | exact fun _ _ => rfl | exact fun _ _ _ _ => rfl | exact Or.inl rfl | exact Or.inr rfl | refine And.intro ?_ ?_)), by (repeat' (first | exact trivial | exact rfl | exact congrArg (SV.int .i64) (Int.natCast_succ _).symm | exact congrArg (SV.int .u64) (Int.natCast_succ _).symm | refine And.intro ?_ ?_)), rfl⟩
  · exact ent_tau [0, 1, 2, 4, 3] ⟨by (repeat' (first | exact trivial | exact rfl | exact fun _ _ => rfl | exact fun _ _ _ _ => rfl | exact Or.inl rfl | exact Or.inr rfl | refine And.intro ?_ ?_)), by (repeat' (first | exact trivial | exact rfl | exact congrArg (SV.int .i64) (Int.natCast_succ _).symm | exact congrArg (SV.int .u64) (Int.natCast_succ _).symm | refine And.intro ?_ ?_)), rfl⟩
theorem t12 (h : HD) (y : PD) (hy : BOk y) (hyn : y.n ≤ 9223372036854775807) (w nb : Int) (hw : 0 ≤ w ∧ w ≤ 255) (hnb : 0 ≤ nb ∧ nb ≤ 255) : CallP Try.prog 12 [HD.A h, .osl y.b 1 1 y.n y.cap, .int .u8 w, .int .u8 nb] (H12 h y) (Ret (.bool true) (H12 h y)) := by
  obtain ⟨b, hb⟩ : ∃ b, vb h = b := ⟨_, rfl⟩
  have c33 := t33 h
  rw [hb] at c33
  refine callRK (E := E) E_ok 9 Try.func12 rfl ?_
  (repeat' (first | exact trivial | exact fun _ => rfl | exact rfl | refine And.intro ?_ ?_))
  refine c33.use [0] ?_ (by (repeat' (first | exact trivial | exact rfl | exact fun _ _ => rfl | exact fun _ _ _ _ => rfl | exact Or.inl rfl | exact Or.inr rfl | refine And.intro ?_ ?_))) rfl
  cases b with
  | false =>
    all_goals (repeat' (first | exact trivial | exact fun _ => rfl | exact rfl | refine And.intro ?_ ?_))
    all_goals first | exact True.intro | omega | exact u1 (lt64 (by omega)) | exact u0 (lt64 (by omega)) | (show under _ _; simp [under, gB, wB]; done) | (show under _ _; simp [under, gB, wB]; omega) | skip
    all_goals intro hx
    all_goals first | exact absurd hx (by decide) | skip
    (repeat' (first | exact trivial | exact fun _ => rfl | exact rfl | refine And.intro ?_ ?_))
    refine t15.use [] ?_ trivial rfl
    (repeat' (first | exact trivial | exact fun _ => rfl | exact rfl | refine And.intro ?_ ?_))
    all_goals first | exact True.intro | omega | exact u1 (lt64 (by omega)) | exact u0 (lt64 (by omega)) | (show under _ _; simp [under, gB, wB]; done) | (show under _ _; simp [under, gB, wB]; omega) | skip
    exact ent_tau [0, 1] ⟨by (repeat' (first | exact trivial | exact rfl | exact fun _ _ => rfl | exact fun _ _ _ _ => rfl | exact Or.inl rfl | exact Or.inr rfl | refine And.intro ?_ ?_)), by (repeat' (first | exact trivial | exact rfl | exact congrArg (SV.int .i64) (Int.natCast_succ _).symm | exact congrArg (SV.int .u64) (Int.natCast_succ _).symm | refine And.intro ?_ ?_)), rfl⟩
  | true =>
    have hv := vb_iff.1 hb
    have hm : 0 ≤ nb.tmod 8 ∧ nb.tmod 8 < 8 := ⟨Int.tmod_nonneg _ hnb.1, Int.tmod_lt_of_pos _ (by omega)⟩
    have c1 := t26 h hv true
    have c2 := t26 h hv false
    have c3 := t31 h hv true (nb.tmod 8) (inB_iff.2 (by omega))
    have c4 := t31 h hv false (nb.tmod 8) (inB_iff.2 (by omega))
    have f1 := few_two hv
    have f2 := lve_less hv hm.1
    have c5 := t42 _ (lve128 hv true hm.1)
    have c6 := t42 _ (lve128 hv false hm.1)
    have seg := seg12 h hv y hy hyn w nb hw hnb
    obtain ⟨L1, e1⟩ : ∃ L, lveS h true (nb.tmod 8) = L := ⟨_, rfl⟩
    obtain ⟨L2, e2⟩ : ∃ L, lveS h false (nb.tmod 8) = L := ⟨_, rfl⟩
    rw [e1] at c3 c5 f2
    rw [e2] at c4 c6 f2
    have g1 : ¬ ((h.few true : Nat) : Int) < (h.few false : Nat) := by omega
    have g2 : ¬ ((L1 : Nat) : Int) < 0 := by omega
    have g3 : ¬ ((L2 : Nat) : Int) < 0 := by omega
    have g4 : ¬ ((pop L1 : Nat) : Int) < (pop L2 : Nat) := by omega
    clear f1 f2 e1 e2
    all_goals (repeat' (first | exact trivial | exact fun _ => rfl | exact rfl | refine And.intro ?_ ?_))
    all_goals first | exact True.intro | omega | exact u1 (lt64 (by omega)) | exact u0 (lt64 (by omega)) | (show under _ _; simp [under, gB, wB]; done) | (show under _ _; simp [under, gB, wB]; omega) | skip
    all_goals intro hx
    all_goals first | exact absurd hx (by decide) | skip
    (repeat' (first | exact trivial | exact fun _ => rfl | exact rfl | refine And.intro ?_ ?_))
    all_goals first | (first | omega | exact u0 (by omega) | exact u1 (by omega) | exact u1 ⟨by omega, by omega⟩ | exact un (by omega) | exact fun hh => hh | exact fun hh => absurd hh (by decide) | exact fun hh => congrArg not hh | exact fun hh => Bool.noConfusion (show true = false from hh) | exact fun hh => Bool.noConfusion (show false = true from hh)) | skip
    refine c1.use [0] ?_ (by (repeat' (first | exact trivial | exact rfl | exact fun _ _ => rfl | exact fun _ _ _ _ => rfl | exact Or.inl rfl | exact Or.inr rfl | refine And.intro ?_ ?_))) rfl
    (repeat' (first | exact trivial | exact fun _ => rfl | exact rfl | refine And.intro ?_ ?_))
    refine c2.use [0] ?_ (by (repeat' (first | exact trivial | exact rfl | exact fun _ _ => rfl | exact fun _ _ _ _ => rfl | exact Or.inl rfl | exact Or.inr rfl | refine And.intro ?_ ?_))) rfl
    (repeat' (first | exact trivial | exact fun _ => rfl | exact rfl | refine And.intro ?_ ?_))
    refine c3.use [0] ?_ (by (repeat' (first | exact trivial | exact rfl | exact fun _ _ => rfl | exact fun _ _ _ _ => rfl | exact Or.inl rfl | exact Or.inr rfl | refine And.intro ?_ ?_))) rfl
    (repeat' (first | exact trivial | exact fun _ => rfl | exact rfl | refine And.intro ?_ ?_))
    refine c4.use [0] ?_ (by (repeat' (first | exact trivial | exact rfl | exact fun _ _ => rfl | exact fun _ _ _ _ => rfl | exact Or.inl rfl | exact Or.inr rfl | refine And.intro ?_ ?_))) rfl
    all_goals (repeat' (first | exact trivial | exact fun _ => rfl | exact rfl | refine And.intro ?_ ?_))
    all_goals first | exact True.intro | omega | exact u1 (lt64 (by omega)) | exact u0 (lt64 (by omega)) | (show under _ _; simp [under, gB, wB]; done) | (show under _ _; simp [under, gB, wB]; omega) | skip
    all_goals intro q1
    all_goals first | (exfalso; revert q1; simp [gB, wB, g1, g2, g3, g4]; done) | skip
    refine c5.use [] ?_ trivial rfl
    all_goals (repeat' (first | exact trivial | exact fun _ => rfl | exact rfl | refine And.intro ?_ ?_))
    all_goals first | exact True.intro | omega | exact u1 (lt64 (by omega)) | exact u0 (lt64 (by omega)) | (show under _ _; simp [under, gB, wB]; done) | (show under _ _; simp [under, gB, wB]; omega) | skip
    all_goals intro q2
    all_goals first | (exfalso; revert q2; simp [gB, wB, g1, g2, g3, g4]; done) | skip
    refine c6.use [] ?_ trivial rfl
    all_goals (repeat' (first | exact trivial | exact fun _ => rfl | exact rfl | refine And.intro ?_ ?_))
    all_goals first | exact True.intro | omega | exact u1 (lt64 (by omega)) | exact u0 (lt64 (by omega)) | (show under _ _; simp [under, gB, wB]; done) | (show under _ _; simp [under, gB, wB]; omega) | skip
    all_goals intro q3
    all_goals first | (exfalso; revert q3; simp [gB, wB, g1, g2, g3, g4]; done) | skip
    (repeat' (first | exact trivial | exact fun _ => rfl | exact rfl | refine And.intro ?_ ?_))
    refine CodeP.pre ?_ seg
    exact ent_tau [0, 1, 2] ⟨by (repeat' (first | exact trivial | exact rfl | exact fun _ _ => rfl | exact fun _ _ _ _ => rfl | exact Or.inl rfl | exact Or.inr rfl | refine And.intro ?_ ?_)), by (repeat' (first | exact trivial | exact rfl | exact congrArg (SV.int .i64) (Int.natCast_succ _).symm | exact congrArg (SV.int .u64) (Int.natCast_succ _).symm | refine And.intro ?_ ?_)), rfl⟩
end Go.Proofs.Ytgofhjihkinknaa
