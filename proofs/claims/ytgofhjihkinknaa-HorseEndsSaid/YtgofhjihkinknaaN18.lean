/-
  Parts: P8, Pe, Pf, Pg.
-/
import Derived.Test.YtgofhjihkinknaaN16
import Derived.Test.YtgofhjihkinknaaN17
set_option linter.unusedVariables false
/-
  Contracts: Follows.
-/
namespace Go.Proofs.Ytgofhjihkinknaa
open Go Go.Sy Kuhn
set_option linter.unusedSimpArgs false
set_option maxRecDepth 100000
set_option maxHeartbeats 4000000
attribute [local irreducible] CallP CodeP Ent YieldP
attribute [local irreducible] HD.ch maskO

noncomputable def rest46 : Code := match Try.f46.body with
  | some (.seq _ r) => r
  | _ => .skip
theorem isrec46 : IsRec2 Try.f46 5 2 rest46 := ⟨_, _, _, _, _, _, _, rfl, by decide, by decide, rfl⟩
open Classical in
/-- Whether a move can follow another one, and the error. -/
noncomputable def HD.fol (h : HD) (a b : Int) : Int × Int :=
  if h.Valid then (if inB a 0 (h.n - 1) = true ∧ inB b 0 (h.n - 1) = true then (if h.can true a.toNat b.toNat = true then 2 else if h.can false a.toNat b.toNat = true then 1 else 0, 0) else (0, 2)) else (0, 1)
theorem t16 (h : HD) (a b : Int) : CallP Try.prog 16 [HD.A h, .int .i64 a, .int .i64 b] (HD.H h) (Ret (.tup [.int .i64 (HD.fol h a b).1, .int .i64 (HD.fol h a b).2]) (HD.H h)) := by
  obtain ⟨c, hc⟩ : ∃ c, (inB a 0 (h.n - 1) && inB b 0 (h.n - 1)) = c := ⟨_, rfl⟩
  have c47 := t47_2 h a b 48 (.inl rfl) c fun hv => by
    rw [← hc]
    exact t48 h hv.2.1 a b
  obtain ⟨r, hr⟩ : ∃ r, HD.fol h a b = r := ⟨_, rfl⟩
  rw [hr]
  refine callDR (E := E) E_ok Try.func16 rfl (g := 46) (k1 := 5) (k2 := 2) Try.func46 isrec46 rfl ?_
  (repeat' (first | exact trivial | exact fun _ => rfl | exact rfl | refine And.intro ?_ ?_))
  refine CallP.frameH c47 [0, 2, 3] (by (repeat' (first | exact trivial | exact rfl | exact fun _ _ => rfl | exact fun _ _ _ _ => rfl | exact Or.inl rfl | exact Or.inr rfl | refine And.intro ?_ ?_))) rfl ?_
  rintro ce h' (⟨hv, hc1, rfl, rfl⟩ | ⟨hv, rfl, rfl⟩ | ⟨hv, hc1, rfl, rfl⟩)
  · refine ⟨rfl, ?_⟩
    rw [hc1, Bool.and_eq_true, inB_iff, inB_iff] at hc
    obtain ⟨i, rfl⟩ : ∃ i : Nat, a = i := ⟨a.toNat, by omega⟩
    obtain ⟨k, rfl⟩ : ∃ k : Nat, b = k := ⟨b.toNat, by omega⟩
    have hi : i < h.n := by omega
    have hk : k < h.n := by omega
    have hn := hv.2.1
    have bt : ∀ s, (h.ch s i).testBit k = h.can s i k := fun s => by
      rw [HD.ch_bit, decide_eq_true hi, decide_eq_true hk]
      rfl
    have cs : ∀ s, CallP Try.prog 51 [.int .u64 ([((h.ch s 0 : Nat) : Int), (h.ch s 1 : Nat), (h.ch s 2 : Nat), (h.ch s 3 : Nat), (h.ch s 4 : Nat), (h.ch s 5 : Nat), (h.ch s 6 : Nat)].getD ((i : Nat) : Int).toNat 0), .int .i64 k] [] (Ret (.bool (h.can s i k)) []) := fun s => by
      have := t51c (h.ch s) (fun j _ => HD.ch_lt hn s j) i k (by omega) (by omega)
      rwa [bt] at this
    have er : HD.fol h i k = (if h.can true i k = true then 2 else if h.can false i k = true then 1 else 0, 0) := by
      unfold HD.fol
      rw [if_pos hv, if_pos ⟨inB_iff.2 hc.1, inB_iff.2 hc.2⟩]
      rfl
    rw [hr] at er
    have ct := cs true
    have cf := cs false
    obtain ⟨b1, hb1⟩ : ∃ b1, h.can true i k = b1 := ⟨_, rfl⟩
    obtain ⟨b2, hb2⟩ : ∃ b2, h.can false i k = b2 := ⟨_, rfl⟩
    rw [hb1] at ct
    rw [hb2] at cf
    rw [hb1, hb2] at er
    (repeat' (first | exact trivial | exact fun _ => rfl | exact rfl | refine And.intro ?_ ?_))
    refine drawP E_ok [2, 3, 5] pl16_3 (by kernel_rfl) ?_
    refine And.intro (And.intro ?_ ?_) trivial
    · (repeat' (first | exact trivial | exact fun _ => rfl | exact rfl | refine And.intro ?_ ?_))
    refine (t50 h hv true).use [0] ?_ (by (repeat' (first | exact trivial | exact rfl | exact fun _ _ => rfl | exact fun _ _ _ _ => rfl | exact Or.inl rfl | exact Or.inr rfl | refine And.intro ?_ ?_))) rfl
    refine And.intro (And.intro ?_ ?_) trivial
    · (repeat' (first | exact trivial | exact fun _ => rfl | exact rfl | refine And.intro ?_ ?_))
      all_goals first | (first | omega | exact u0 (by omega) | exact u1 (by omega) | exact u1 ⟨by omega, by omega⟩ | exact un (by omega) | exact fun hh => hh | exact fun hh => absurd hh (by decide) | exact fun hh => congrArg not hh | exact fun hh => Bool.noConfusion (show true = false from hh) | exact fun hh => Bool.noConfusion (show false = true from hh)) | skip
    refine ct.use [] ?_ trivial rfl
    (repeat' (first | exact trivial | exact fun _ => rfl | exact rfl | refine And.intro ?_ ?_))
    all_goals first | (first | omega | exact u0 (by omega) | exact u1 (by omega) | exact u1 ⟨by omega, by omega⟩ | exact un (by omega) | exact fun hh => hh | exact fun hh => absurd hh (by decide) | exact fun hh => congrArg not hh | exact fun hh => Bool.noConfusion (show true = false from hh) | exact fun hh => Bool.noConfusion (show false = true from hh)) | skip
    · intro e
      subst e
      subst er
      (repeat' (first | exact trivial | exact fun _ => rfl | exact rfl | refine And.intro ?_ ?_))
      all_goals first | (first | omega | exact u0 (by omega) | exact u1 (by omega) | exact u1 ⟨by omega, by omega⟩ | exact un (by omega) | exact fun hh => hh | exact fun hh => absurd hh (by decide) | exact fun hh => congrArg not hh | exact fun hh => Bool.noConfusion (show true = false from hh) | exact fun hh => Bool.noConfusion (show false = true from hh)) | skip
      intro _
      (repeat' (first | exact trivial | exact fun _ => rfl | exact rfl | refine And.intro ?_ ?_))
      all_goals first | (first | omega | exact u0 (by omega) | exact u1 (by omega) | exact u1 ⟨by omega, by omega⟩ | exact un (by omega) | exact fun hh => hh | exact fun hh => absurd hh (by decide) | exact fun hh => congrArg not hh | exact fun hh => Bool.noConfusion (show true = false from hh) | exact fun hh => Bool.noConfusion (show false = true from hh)) | skip
      refine ⟨_, _, ⟨rfl, rfl⟩, ?_⟩
      exact ent_tau [0] ⟨by (repeat' (first | exact trivial | exact rfl | exact fun _ _ => rfl | exact Or.inl rfl | refine And.intro ?_ ?_)), by (repeat' (first | exact trivial | exact rfl | exact congrArg (SV.int .i64) (Int.natCast_succ _).symm | exact congrArg (SV.int .u64) (Int.natCast_succ _).symm | refine And.intro ?_ ?_)), rfl⟩
    · intro e
      subst e
      (repeat' (first | exact trivial | exact fun _ => rfl | exact rfl | refine And.intro ?_ ?_))
      refine drawP E_ok [2, 3, 5] pl16_5 (by kernel_rfl) ?_
      refine And.intro (And.intro ?_ ?_) trivial
      · (repeat' (first | exact trivial | exact fun _ => rfl | exact rfl | refine And.intro ?_ ?_))
      refine (t50 h hv false).use [0] ?_ (by (repeat' (first | exact trivial | exact rfl | exact fun _ _ => rfl | exact fun _ _ _ _ => rfl | exact Or.inl rfl | exact Or.inr rfl | refine And.intro ?_ ?_))) rfl
      refine And.intro (And.intro ?_ ?_) trivial
      · (repeat' (first | exact trivial | exact fun _ => rfl | exact rfl | refine And.intro ?_ ?_))
        all_goals first | (first | omega | exact u0 (by omega) | exact u1 (by omega) | exact u1 ⟨by omega, by omega⟩ | exact un (by omega) | exact fun hh => hh | exact fun hh => absurd hh (by decide) | exact fun hh => congrArg not hh | exact fun hh => Bool.noConfusion (show true = false from hh) | exact fun hh => Bool.noConfusion (show false = true from hh)) | skip
      refine cf.use [] ?_ trivial rfl
      (repeat' (first | exact trivial | exact fun _ => rfl | exact rfl | refine And.intro ?_ ?_))
      all_goals first | (first | omega | exact u0 (by omega) | exact u1 (by omega) | exact u1 ⟨by omega, by omega⟩ | exact un (by omega) | exact fun hh => hh | exact fun hh => absurd hh (by decide) | exact fun hh => congrArg not hh | exact fun hh => Bool.noConfusion (show true = false from hh) | exact fun hh => Bool.noConfusion (show false = true from hh)) | skip
      · intro e
        subst e
        subst er
        (repeat' (first | exact trivial | exact fun _ => rfl | exact rfl | refine And.intro ?_ ?_))
        all_goals first | (first | omega | exact u0 (by omega) | exact u1 (by omega) | exact u1 ⟨by omega, by omega⟩ | exact un (by omega) | exact fun hh => hh | exact fun hh => absurd hh (by decide) | exact fun hh => congrArg not hh | exact fun hh => Bool.noConfusion (show true = false from hh) | exact fun hh => Bool.noConfusion (show false = true from hh)) | skip
        intro _
        (repeat' (first | exact trivial | exact fun _ => rfl | exact rfl | refine And.intro ?_ ?_))
        all_goals first | (first | omega | exact u0 (by omega) | exact u1 (by omega) | exact u1 ⟨by omega, by omega⟩ | exact un (by omega) | exact fun hh => hh | exact fun hh => absurd hh (by decide) | exact fun hh => congrArg not hh | exact fun hh => Bool.noConfusion (show true = false from hh) | exact fun hh => Bool.noConfusion (show false = true from hh)) | skip
        refine ⟨_, _, ⟨rfl, rfl⟩, ?_⟩
        exact ent_tau [0] ⟨by (repeat' (first | exact trivial | exact rfl | exact fun _ _ => rfl | exact Or.inl rfl | refine And.intro ?_ ?_)), by (repeat' (first | exact trivial | exact rfl | exact congrArg (SV.int .i64) (Int.natCast_succ _).symm | exact congrArg (SV.int .u64) (Int.natCast_succ _).symm | refine And.intro ?_ ?_)), rfl⟩
      · intro e
        subst e
        subst er
        (repeat' (first | exact trivial | exact fun _ => rfl | exact rfl | refine And.intro ?_ ?_))
        all_goals first | (first | omega | exact u0 (by omega) | exact u1 (by omega) | exact u1 ⟨by omega, by omega⟩ | exact un (by omega) | exact fun hh => hh | exact fun hh => absurd hh (by decide) | exact fun hh => congrArg not hh | exact fun hh => Bool.noConfusion (show true = false from hh) | exact fun hh => Bool.noConfusion (show false = true from hh)) | skip
        intro _
        (repeat' (first | exact trivial | exact fun _ => rfl | exact rfl | refine And.intro ?_ ?_))
        all_goals first | (first | omega | exact u0 (by omega) | exact u1 (by omega) | exact u1 ⟨by omega, by omega⟩ | exact un (by omega) | exact fun hh => hh | exact fun hh => absurd hh (by decide) | exact fun hh => congrArg not hh | exact fun hh => Bool.noConfusion (show true = false from hh) | exact fun hh => Bool.noConfusion (show false = true from hh)) | skip
        refine ⟨_, _, ⟨rfl, rfl⟩, ?_⟩
        exact ent_tau [0] ⟨by (repeat' (first | exact trivial | exact rfl | exact fun _ _ => rfl | exact Or.inl rfl | refine And.intro ?_ ?_)), by (repeat' (first | exact trivial | exact rfl | exact congrArg (SV.int .i64) (Int.natCast_succ _).symm | exact congrArg (SV.int .u64) (Int.natCast_succ _).symm | refine And.intro ?_ ?_)), rfl⟩
  · refine ⟨rfl, ?_⟩
    have er : HD.fol h a b = (0, 1) := if_neg hv
    rw [hr] at er
    subst er
    (repeat' (first | exact trivial | exact fun _ => rfl | exact rfl | refine And.intro ?_ ?_))
    all_goals first | (first | omega | exact u0 (by omega) | exact u1 (by omega) | exact u1 ⟨by omega, by omega⟩ | exact un (by omega) | exact fun hh => hh | exact fun hh => absurd hh (by decide) | exact fun hh => congrArg not hh | exact fun hh => Bool.noConfusion (show true = false from hh) | exact fun hh => Bool.noConfusion (show false = true from hh)) | skip
    intro _
    (repeat' (first | exact trivial | exact fun _ => rfl | exact rfl | refine And.intro ?_ ?_))
    all_goals first | (first | omega | exact u0 (by omega) | exact u1 (by omega) | exact u1 ⟨by omega, by omega⟩ | exact un (by omega) | exact fun hh => hh | exact fun hh => absurd hh (by decide) | exact fun hh => congrArg not hh | exact fun hh => Bool.noConfusion (show true = false from hh) | exact fun hh => Bool.noConfusion (show false = true from hh)) | skip
    intro _
    (repeat' (first | exact trivial | exact fun _ => rfl | exact rfl | refine And.intro ?_ ?_))
    all_goals first | (first | omega | exact u0 (by omega) | exact u1 (by omega) | exact u1 ⟨by omega, by omega⟩ | exact un (by omega) | exact fun hh => hh | exact fun hh => absurd hh (by decide) | exact fun hh => congrArg not hh | exact fun hh => Bool.noConfusion (show true = false from hh) | exact fun hh => Bool.noConfusion (show false = true from hh)) | skip
    refine ⟨_, _, ⟨rfl, rfl⟩, ?_⟩
    exact ent_tau [0] ⟨by (repeat' (first | exact trivial | exact rfl | exact fun _ _ => rfl | exact Or.inl rfl | refine And.intro ?_ ?_)), by (repeat' (first | exact trivial | exact rfl | exact congrArg (SV.int .i64) (Int.natCast_succ _).symm | exact congrArg (SV.int .u64) (Int.natCast_succ _).symm | refine And.intro ?_ ?_)), rfl⟩
  · refine ⟨rfl, ?_⟩
    have er : HD.fol h a b = (0, 2) := by
      unfold HD.fol
      rw [if_pos hv, if_neg]
      rintro ⟨h1, h2⟩
      rw [h1, h2, hc1] at hc
      cases hc
    rw [hr] at er
    subst er
    (repeat' (first | exact trivial | exact fun _ => rfl | exact rfl | refine And.intro ?_ ?_))
    all_goals first | (first | omega | exact u0 (by omega) | exact u1 (by omega) | exact u1 ⟨by omega, by omega⟩ | exact un (by omega) | exact fun hh => hh | exact fun hh => absurd hh (by decide) | exact fun hh => congrArg not hh | exact fun hh => Bool.noConfusion (show true = false from hh) | exact fun hh => Bool.noConfusion (show false = true from hh)) | skip
    intro _
    (repeat' (first | exact trivial | exact fun _ => rfl | exact rfl | refine And.intro ?_ ?_))
    all_goals first | (first | omega | exact u0 (by omega) | exact u1 (by omega) | exact u1 ⟨by omega, by omega⟩ | exact un (by omega) | exact fun hh => hh | exact fun hh => absurd hh (by decide) | exact fun hh => congrArg not hh | exact fun hh => Bool.noConfusion (show true = false from hh) | exact fun hh => Bool.noConfusion (show false = true from hh)) | skip
    intro _
    (repeat' (first | exact trivial | exact fun _ => rfl | exact rfl | refine And.intro ?_ ?_))
    all_goals first | (first | omega | exact u0 (by omega) | exact u1 (by omega) | exact u1 ⟨by omega, by omega⟩ | exact un (by omega) | exact fun hh => hh | exact fun hh => absurd hh (by decide) | exact fun hh => congrArg not hh | exact fun hh => Bool.noConfusion (show true = false from hh) | exact fun hh => Bool.noConfusion (show false = true from hh)) | skip
    refine ⟨_, _, ⟨rfl, rfl⟩, ?_⟩
    exact ent_tau [0] ⟨by (repeat' (first | exact trivial | exact rfl | exact fun _ _ => rfl | exact Or.inl rfl | refine And.intro ?_ ?_)), by (repeat' (first | exact trivial | exact rfl | exact congrArg (SV.int .i64) (Int.natCast_succ _).symm | exact congrArg (SV.int .u64) (Int.natCast_succ _).symm | refine And.intro ?_ ?_)), rfl⟩
end Go.Proofs.Ytgofhjihkinknaa
/-
  Contracts: moves are sorted by the minute in which they should begin.
-/
namespace Go.Proofs.Ytgofhjihkinknaa
open Go Go.Sy Kuhn
set_option linter.unusedSimpArgs false
set_option maxRecDepth 100000
set_option maxHeartbeats 4000000
attribute [local irreducible] CallP CodeP Ent YieldP
attribute [local irreducible] HD.ch maskO

/-- A move, and its number. -/
def turnL (h : HD) (i : Nat) : List Int := [h.at' i, h.pl i, h.lo i, h.hi i, (i : Int)]
def rowT (h : HD) (o : Nat → Nat) (k : Nat) : List SV := [.int .i64 (h.at' (o k)), .int .i64 (h.pl (o k)), .int .i64 (h.lo (o k)), .int .i64 (h.hi (o k)), .int .i64 ((o k : Nat) : Int)]
theorem t97 (a : Int) : CallP Try.prog 97 [.int .i64 a] [] (Ret (.bool false) []) := by
  refine callR (E := E) E_ok Try.func97 rfl ?_
  (repeat' (first | exact trivial | exact fun _ => rfl | exact rfl | refine And.intro ?_ ?_))
  refine ent_tau [] ⟨by (repeat' (first | exact trivial | exact rfl | exact fun _ _ => rfl | exact Or.inl rfl | refine And.intro ?_ ?_)), ⟨rfl, ?_, trivial⟩, rfl⟩
  exact congrArg SV.bool (by simp)
def cmpI (a b : Int) : Int := if a < b then -1 else if a > b then 1 else 0
theorem t89 (a b : Int) : CallP Try.prog 89 [.int .i64 a, .int .i64 b] [] (Ret (.int .i64 (cmpI a b)) []) := by
  obtain ⟨r, hr⟩ : ∃ r, cmpI a b = r := ⟨_, rfl⟩
  rw [hr]
  refine callR (E := E) E_ok Try.func89 rfl ?_
  (repeat' (first | exact trivial | exact fun _ => rfl | exact rfl | refine And.intro ?_ ?_))
  refine (t97 a).use [] ?_ (by (repeat' (first | exact trivial | exact rfl | exact fun _ _ => rfl | exact Or.inl rfl | refine And.intro ?_ ?_))) rfl
  (repeat' (first | exact trivial | exact fun _ => rfl | exact rfl | refine And.intro ?_ ?_))
  refine (t97 b).use [] ?_ (by (repeat' (first | exact trivial | exact rfl | exact fun _ _ => rfl | exact Or.inl rfl | refine And.intro ?_ ?_))) rfl
  (repeat' (first | exact trivial | exact fun _ => rfl | exact rfl | refine And.intro ?_ ?_))
  all_goals first | (first | omega | exact u0 (by omega) | exact u1 (by omega) | exact u1 ⟨by omega, by omega⟩ | exact un (by omega) | exact fun hh => hh | exact fun hh => absurd hh (by decide) | exact fun hh => congrArg not hh | exact fun hh => Bool.noConfusion (show true = false from hh) | exact fun hh => Bool.noConfusion (show false = true from hh)) | skip
  intro _
  (repeat' (first | exact trivial | exact fun _ => rfl | exact rfl | refine And.intro ?_ ?_))
  all_goals first | (first | omega | exact u0 (by omega) | exact u1 (by omega) | exact u1 ⟨by omega, by omega⟩ | exact un (by omega) | exact fun hh => hh | exact fun hh => absurd hh (by decide) | exact fun hh => congrArg not hh | exact fun hh => Bool.noConfusion (show true = false from hh) | exact fun hh => Bool.noConfusion (show false = true from hh)) | skip
  intro _
  (repeat' (first | exact trivial | exact fun _ => rfl | exact rfl | refine And.intro ?_ ?_))
  all_goals first | (first | omega | exact u0 (by omega) | exact u1 (by omega) | exact u1 ⟨by omega, by omega⟩ | exact un (by omega) | exact fun hh => hh | exact fun hh => absurd hh (by decide) | exact fun hh => congrArg not hh | exact fun hh => Bool.noConfusion (show true = false from hh) | exact fun hh => Bool.noConfusion (show false = true from hh)) | skip
  · intro hx
    have h1 := of_decide_eq_true hx
    unfold cmpI at hr
    rw [if_pos h1] at hr
    subst hr
    (repeat' (first | exact trivial | exact fun _ => rfl | exact rfl | refine And.intro ?_ ?_))
    exact ent_tau [] ⟨by (repeat' (first | exact trivial | exact rfl | exact fun _ _ => rfl | exact Or.inl rfl | refine And.intro ?_ ?_)), by (repeat' (first | exact trivial | exact rfl | exact congrArg (SV.int .i64) (Int.natCast_succ _).symm | exact congrArg (SV.int .u64) (Int.natCast_succ _).symm | refine And.intro ?_ ?_)), rfl⟩
  · intro hx
    have h1 := of_decide_eq_false hx
    unfold cmpI at hr
    rw [if_neg h1] at hr
    (repeat' (first | exact trivial | exact fun _ => rfl | exact rfl | refine And.intro ?_ ?_))
    all_goals first | (first | omega | exact u0 (by omega) | exact u1 (by omega) | exact u1 ⟨by omega, by omega⟩ | exact un (by omega) | exact fun hh => hh | exact fun hh => absurd hh (by decide) | exact fun hh => congrArg not hh | exact fun hh => Bool.noConfusion (show true = false from hh) | exact fun hh => Bool.noConfusion (show false = true from hh)) | skip
    · intro hx
      rw [if_pos (of_decide_eq_true hx)] at hr
      subst hr
      (repeat' (first | exact trivial | exact fun _ => rfl | exact rfl | refine And.intro ?_ ?_))
      exact ent_tau [] ⟨by (repeat' (first | exact trivial | exact rfl | exact fun _ _ => rfl | exact Or.inl rfl | refine And.intro ?_ ?_)), by (repeat' (first | exact trivial | exact rfl | exact congrArg (SV.int .i64) (Int.natCast_succ _).symm | exact congrArg (SV.int .u64) (Int.natCast_succ _).symm | refine And.intro ?_ ?_)), rfl⟩
    · intro hx
      rw [if_neg (of_decide_eq_false hx)] at hr
      subst hr
      (repeat' (first | exact trivial | exact fun _ => rfl | exact rfl | refine And.intro ?_ ?_))
      exact ent_tau [] ⟨by (repeat' (first | exact trivial | exact rfl | exact fun _ _ => rfl | exact Or.inl rfl | refine And.intro ?_ ?_)), by (repeat' (first | exact trivial | exact rfl | exact congrArg (SV.int .i64) (Int.natCast_succ _).symm | exact congrArg (SV.int .u64) (Int.natCast_succ _).symm | refine And.intro ?_ ?_)), rfl⟩
theorem t88 (a b c d e a' b' c' d' e' : Int) : CallP Try.prog 88 [.agg [.int .i64 a, .int .i64 b, .int .i64 c, .int .i64 d, .int .i64 e], .agg [.int .i64 a', .int .i64 b', .int .i64 c', .int .i64 d', .int .i64 e']] [] (Ret (.int .i64 (cmpI a a')) []) := by
  refine callR (E := E) E_ok Try.func88 rfl ?_
  (repeat' (first | exact trivial | exact fun _ => rfl | exact rfl | refine And.intro ?_ ?_))
  refine (t89 a a').use [] ?_ (by (repeat' (first | exact trivial | exact rfl | exact fun _ _ => rfl | exact Or.inl rfl | refine And.intro ?_ ?_))) rfl
  (repeat' (first | exact trivial | exact fun _ => rfl | exact rfl | refine And.intro ?_ ?_))
  exact ent_tau [] ⟨by (repeat' (first | exact trivial | exact rfl | exact fun _ _ => rfl | exact Or.inl rfl | refine And.intro ?_ ?_)), by (repeat' (first | exact trivial | exact rfl | exact congrArg (SV.int .i64) (Int.natCast_succ _).symm | exact congrArg (SV.int .u64) (Int.natCast_succ _).symm | refine And.intro ?_ ?_)), rfl⟩
theorem cmpI_lt (a b : Int) : decide (cmpI a b < 0) = decide (a < b) := by
  unfold cmpI
  by_cases h : a < b
  · rw [if_pos h, decide_eq_true h]
    rfl
  · rw [if_neg h, decide_eq_false h]
    split <;> rfl
theorem insF_yes {K : Nat → Int} {o : Nat → Nat} {j : Nat} (h : K (o (j + 1)) < K (o j)) : insF (ltK K) (j + 1) o = insF (ltK K) j (swp o (j + 1)) := by
  simp only [insF, ltK, decide_eq_true h]
theorem insF_no {K : Nat → Int} {o : Nat → Nat} {j : Nat} (h : ¬ K (o (j + 1)) < K (o j)) : insF (ltK K) (j + 1) o = o := by
  simp only [insF, ltK, decide_eq_false h]
theorem swp_row (h : HD) (o : Nat → Nat) {a b j : Nat} (ha : a = j + 1) (hb : b = j) (k : Nat) :
    selL (decide (k = b)) (splice (selL (decide (b = a)) (splice (rowT h o a) 0 (rowT h o b)) (rowT h o b)) 0 (rowT h o a)) (selL (decide (k = a)) (splice (rowT h o a) 0 (rowT h o b)) (rowT h o k)) = rowT h (swp o (j + 1)) k := by
  subst ha hb
  have s1 : ∀ x y, splice (rowT h o x) 0 (rowT h o y) = rowT h o y := fun x y => rfl
  rw [decide_eq_false (show ¬ b = b + 1 by omega), selL_false, s1, s1]
  by_cases c1 : k = b
  · subst c1
    rw [decide_eq_true rfl, selL_true]
    unfold rowT swp
    rw [if_neg (by omega), Nat.add_sub_cancel, if_pos rfl]
  · rw [decide_eq_false c1, selL_false]
    by_cases c2 : k = b + 1
    · subst c2
      rw [decide_eq_true rfl, selL_true]
      unfold rowT swp
      rw [if_pos rfl, Nat.add_sub_cancel]
    · rw [decide_eq_false c2, selL_false]
      unfold rowT swp
      rw [if_neg c2, Nat.add_sub_cancel, if_neg c1]
def plsw : Plan := .eager 14 <| .alt 15 (.eager 16 <| .alt 17 .done .no) .no
def pl99_6s : Plan := .eager 0 <| .eager 1 <| .eager 2 <| .eager 3 <| .eager 4 <| .eager 5 <| .eager 6 <| .eager 7 <| .eager 8 <| .eager 10 <| .eager 11 <| .eager 12 <| .alt 9 (.alt 13 plsw .no) (.alt 13 (.alt 9 plsw .no) .no)
theorem t99x (h : HD) (n cap : Nat) (hn : n ≤ 7) : CallP Try.prog 99 [.slice 0 5 0 n cap, .int .i64 0, .int .i64 n, .fn (.func 88) [] []] [some (.arr 5 n cap (rowT h id))] (Ret (.tup []) [some (.arr 5 n cap (rowT h (srtF h.at' n)))]) := by
  refine callR (E := E) E_ok Try.func99 rfl ?_
  (repeat' (first | exact trivial | exact fun _ => rfl | exact rfl | refine And.intro ?_ ?_))
  all_goals first | (first | omega | exact u0 (by omega) | exact u1 (by omega) | exact u1 ⟨by omega, by omega⟩ | exact un (by omega) | exact fun hh => hh | exact fun hh => absurd hh (by decide) | exact fun hh => congrArg not hh | exact fun hh => Bool.noConfusion (show true = false from hh) | exact fun hh => Bool.noConfusion (show false = true from hh)) | skip
  refine loopP E_ok [0, 1, 2, 3] (fun i : Nat => [(8, .int .i64 i)]) (fun i _ => [some (.arr 5 n cap (rowT h (srtF h.at' i)))]) (fun i => 1 ≤ i ∧ (i ≤ n ∨ i = 1)) (fun i => n - i) 1 ⟨Nat.le_refl _, .inr rfl⟩ ?_ ?_
  · exact ent_tau [0] ⟨by (repeat' (first | exact trivial | exact rfl | exact fun _ _ => rfl | exact fun _ _ _ _ => rfl | exact Or.inl rfl | exact Or.inr rfl | refine And.intro ?_ ?_)), by (repeat' (first | exact trivial | exact rfl | exact congrArg (SV.int .i64) (Int.natCast_succ _).symm | exact congrArg (SV.int .u64) (Int.natCast_succ _).symm | refine And.intro ?_ ?_)), rfl⟩
  rintro i ⟨h1, hi⟩
  refine And.intro ?_ (And.intro (fun hc => ?_) (fun hc => ?_))
  · (repeat' (first | exact trivial | exact fun _ => rfl | exact rfl | refine And.intro ?_ ?_))
  · have hlt : i < n := by
      have := of_decide_eq_true hc
      omega
    (repeat' (first | exact trivial | exact fun _ => rfl | exact rfl | refine And.intro ?_ ?_))
    all_goals first | (first | omega | exact u0 (by omega) | exact u1 (by omega) | exact u1 ⟨by omega, by omega⟩ | exact un (by omega) | exact fun hh => hh | exact fun hh => absurd hh (by decide) | exact fun hh => congrArg not hh | exact fun hh => Bool.noConfusion (show true = false from hh) | exact fun hh => Bool.noConfusion (show false = true from hh)) | skip
    refine loopP E_ok [0, 1, 2, 3, 8] (fun g : Nat × (Nat → Nat) => [(9, .int .i64 g.1)]) (fun g _ => [some (.arr 5 n cap (rowT h g.2))]) (fun g => g.1 ≤ i ∧ insF (ltK h.at') g.1 g.2 = srtF h.at' (i + 1)) (fun g => g.1) (i, srtF h.at' i) ⟨Nat.le_refl _, rfl⟩ ?_ ?_
    · exact ent_tau [0] ⟨by (repeat' (first | exact trivial | exact rfl | exact fun _ _ => rfl | exact fun _ _ _ _ => rfl | exact Or.inl rfl | exact Or.inr rfl | refine And.intro ?_ ?_)), by (repeat' (first | exact trivial | exact rfl | exact congrArg (SV.int .i64) (Int.natCast_succ _).symm | exact congrArg (SV.int .u64) (Int.natCast_succ _).symm | refine And.intro ?_ ?_)), rfl⟩
    rintro ⟨j, o⟩ ⟨hj, ho⟩
    simp only at hj ho
    rcases j with _ | j
    · refine And.intro trivial ?_
      refine drawP E_ok [0] pl99_4 (by kernel_rfl) ?_
      refine And.intro (And.intro ?_ (And.intro (fun hg => ?_) (fun hg => ?_))) trivial
      · (repeat' (first | exact trivial | exact fun _ => rfl | exact rfl | refine And.intro ?_ ?_))
        all_goals first | (first | omega | exact u0 (by omega) | exact u1 (by omega) | exact u1 ⟨by omega, by omega⟩ | exact un (by omega) | exact fun hh => hh | exact fun hh => absurd hh (by decide) | exact fun hh => congrArg not hh | exact fun hh => Bool.noConfusion (show true = false from hh) | exact fun hh => Bool.noConfusion (show false = true from hh)) | (intro hh; simp [gB, wB] at hh; done)
      · simp [gB, wB] at hg
      (repeat' (first | exact trivial | exact fun _ => rfl | exact rfl | refine And.intro ?_ ?_))
      all_goals first | (first | omega | exact u0 (by omega) | exact u1 (by omega) | exact u1 ⟨by omega, by omega⟩ | exact un (by omega) | exact fun hh => hh | exact fun hh => absurd hh (by decide) | exact fun hh => congrArg not hh | exact fun hh => Bool.noConfusion (show true = false from hh) | exact fun hh => Bool.noConfusion (show false = true from hh)) | (intro hx; simp at hx; done) | skip
      intro _
      have ho2 : o = srtF h.at' (i + 1) := ho
      subst ho2
      (repeat' (first | exact trivial | exact fun _ => rfl | exact rfl | refine And.intro ?_ ?_))
      all_goals first | (first | omega | exact u0 (by omega) | exact u1 (by omega) | exact u1 ⟨by omega, by omega⟩ | exact un (by omega) | exact fun hh => hh | exact fun hh => absurd hh (by decide) | exact fun hh => congrArg not hh | exact fun hh => Bool.noConfusion (show true = false from hh) | exact fun hh => Bool.noConfusion (show false = true from hh)) | skip
      refine ⟨i + 1, ⟨by omega, .inl hlt⟩, by omega, ?_⟩
      exact ent_tau [0] ⟨by (repeat' (first | exact trivial | exact rfl | exact fun _ _ => rfl | exact fun _ _ _ _ => rfl | exact Or.inl rfl | exact Or.inr rfl | refine And.intro ?_ ?_)), by (repeat' (first | exact trivial | exact rfl | exact congrArg (SV.int .i64) (Int.natCast_succ _).symm | exact congrArg (SV.int .u64) (Int.natCast_succ _).symm | refine And.intro ?_ ?_)), rfl⟩
    · have e1 : 0 + ((j + 1 : Nat) : Int).toNat = j + 1 := by omega
      have e2 : 0 + (((j + 1 : Nat) : Int) - 1).toNat = j := by omega
      refine And.intro trivial ?_
      refine drawP E_ok [0] pl99_4 (by kernel_rfl) ?_
      refine And.intro (And.intro ?_ (And.intro (fun hg => ?_) (fun hg => ?_))) trivial
      · (repeat' (first | exact trivial | exact fun _ => rfl | exact rfl | refine And.intro ?_ ?_))
        all_goals first | (first | omega | exact u0 (by omega) | exact u1 (by omega) | exact u1 ⟨by omega, by omega⟩ | exact un (by omega) | exact fun hh => hh | exact fun hh => absurd hh (by decide) | exact fun hh => congrArg not hh | exact fun hh => Bool.noConfusion (show true = false from hh) | exact fun hh => Bool.noConfusion (show false = true from hh)) | skip
      · refine (t88 _ _ _ _ _ _ _ _ _ _).use [] ?_ trivial rfl
        (repeat' (first | exact trivial | exact fun _ => rfl | exact rfl | refine And.intro ?_ ?_))
        all_goals first | (first | omega | exact u0 (by omega) | exact u1 (by omega) | exact u1 ⟨by omega, by omega⟩ | exact un (by omega) | exact fun hh => hh | exact fun hh => absurd hh (by decide) | exact fun hh => congrArg not hh | exact fun hh => Bool.noConfusion (show true = false from hh) | exact fun hh => Bool.noConfusion (show false = true from hh)) | exact fun _ => hg | exact fun _ _ => hg | skip
        · intro hx
          have hx3 : (bif decide (((j + 1 : Nat) : Int) > 0) then decide (cmpI (h.at' (o (0 + ((j + 1 : Nat) : Int).toNat))) (h.at' (o (0 + (((j + 1 : Nat) : Int) - 1).toNat))) < 0) else false) = true := hx
          rw [decide_eq_true (show ((j + 1 : Nat) : Int) > 0 by omega), e1, e2, cmpI_lt] at hx3
          have hx4 := of_decide_eq_true hx3
          rw [insF_yes hx4] at ho
          (repeat' (first | exact trivial | exact fun _ => rfl | exact rfl | refine And.intro ?_ ?_))
          refine drawP E_ok [] pl99_6s (by kernel_rfl) ?_
          (repeat' (first | exact trivial | exact fun _ => rfl | exact rfl | refine And.intro ?_ ?_))
          all_goals first | (first | omega | exact u0 (by omega) | exact u1 (by omega) | exact u1 ⟨by omega, by omega⟩ | exact un (by omega) | exact fun hh => hh | exact fun hh => absurd hh (by decide) | exact fun hh => congrArg not hh | exact fun hh => Bool.noConfusion (show true = false from hh) | exact fun hh => Bool.noConfusion (show false = true from hh)) | skip
          all_goals refine ⟨(j, swp o (j + 1)), ⟨by simp only; omega, ho⟩, by simp only; omega, ?_⟩
          all_goals refine ent_tau [0] ⟨?_, ?_, rfl⟩
          all_goals first | (repeat' (first | exact trivial | exact rfl | exact fun _ _ => rfl | exact fun _ _ _ _ => rfl | exact Or.inl rfl | exact Or.inr rfl | refine And.intro ?_ ?_)) | skip
          all_goals first | exact congrArg (SV.int .i64) (show (((j + 1 : Nat)) : Int) - 1 = (j : Int) by omega) | exact fun k _ => swp_row h o e1 e2 k
        · intro hx
          have hx3 : (bif decide (((j + 1 : Nat) : Int) > 0) then decide (cmpI (h.at' (o (0 + ((j + 1 : Nat) : Int).toNat))) (h.at' (o (0 + (((j + 1 : Nat) : Int) - 1).toNat))) < 0) else false) = false := hx
          rw [decide_eq_true (show ((j + 1 : Nat) : Int) > 0 by omega), e1, e2, cmpI_lt] at hx3
          have hx4 := of_decide_eq_false hx3
          rw [insF_no hx4] at ho
          subst ho
          (repeat' (first | exact trivial | exact fun _ => rfl | exact rfl | refine And.intro ?_ ?_))
          all_goals first | (first | omega | exact u0 (by omega) | exact u1 (by omega) | exact u1 ⟨by omega, by omega⟩ | exact un (by omega) | exact fun hh => hh | exact fun hh => absurd hh (by decide) | exact fun hh => congrArg not hh | exact fun hh => Bool.noConfusion (show true = false from hh) | exact fun hh => Bool.noConfusion (show false = true from hh)) | skip
          refine ⟨i + 1, ⟨by omega, .inl hlt⟩, by omega, ?_⟩
          exact ent_tau [0] ⟨by (repeat' (first | exact trivial | exact rfl | exact fun _ _ => rfl | exact fun _ _ _ _ => rfl | exact Or.inl rfl | exact Or.inr rfl | refine And.intro ?_ ?_)), by (repeat' (first | exact trivial | exact rfl | exact congrArg (SV.int .i64) (Int.natCast_succ _).symm | exact congrArg (SV.int .u64) (Int.natCast_succ _).symm | refine And.intro ?_ ?_)), rfl⟩
      · exfalso
        simp [gB, wB] at hg
        try omega
  · have e : n ≤ i := by
      have := of_decide_eq_false hc
      omega
    have e3 : srtF h.at' i = srtF h.at' n := by
      rcases hi with c | c
      · rw [show i = n by omega]
      · have : n = 0 ∨ n = 1 := by omega
        rcases this with c2 | c2
        · rw [c, c2]
          rfl
        · rw [c, c2]
    (repeat' (first | exact trivial | exact fun _ => rfl | exact rfl | refine And.intro ?_ ?_))
    refine ent_tau [0] ⟨?_, by (repeat' (first | exact trivial | exact rfl | exact congrArg (SV.int .i64) (Int.natCast_succ _).symm | exact congrArg (SV.int .u64) (Int.natCast_succ _).symm | refine And.intro ?_ ?_)), rfl⟩
    rw [e3]
    (repeat' (first | exact trivial | exact rfl | exact fun _ _ => rfl | exact fun _ _ _ _ => rfl | exact Or.inl rfl | exact Or.inr rfl | refine And.intro ?_ ?_))
end Go.Proofs.Ytgofhjihkinknaa
/-
  Contracts: moves are sorted, the outer functions.
-/
namespace Go.Proofs.Ytgofhjihkinknaa
open Go Go.Sy Kuhn
set_option linter.unusedSimpArgs false
set_option maxRecDepth 100000
set_option maxHeartbeats 4000000
attribute [local irreducible] CallP CodeP Ent YieldP
attribute [local irreducible] HD.ch maskO

theorem t96 (h : HD) (n cap : Nat) (hn : n ≤ 7) : CallP Try.prog 96 [.slice 0 5 0 n cap, .int .i64 n, .fn (.func 88) [] []] [some (.arr 5 n cap (rowT h id))] (Ret (.tup []) [some (.arr 5 n cap (rowT h (srtF h.at' n)))]) := by
  refine callR (E := E) E_ok Try.func96 rfl ?_
  (repeat' (first | exact trivial | exact fun _ => rfl | exact rfl | refine And.intro ?_ ?_))
  refine loopP E_ok [0, 1, 2, 6, 7] (fun _ : Unit => [(8, .int .i64 20)]) (fun _ H => H) (fun _ => True) (fun _ => 0) () trivial ?_ ?_
  · exact ent_tau [0] ⟨by (repeat' (first | exact trivial | exact rfl | exact fun _ _ => rfl | exact fun _ _ _ _ => rfl | exact Or.inl rfl | exact Or.inr rfl | refine And.intro ?_ ?_)), by (repeat' (first | exact trivial | exact rfl | exact congrArg (SV.int .i64) (Int.natCast_succ _).symm | exact congrArg (SV.int .u64) (Int.natCast_succ _).symm | refine And.intro ?_ ?_)), rfl⟩
  rintro _ _
  refine And.intro ?_ (And.intro (fun hc => ?_) (fun hc => ?_))
  · (repeat' (first | exact trivial | exact fun _ => rfl | exact rfl | refine And.intro ?_ ?_))
  · exfalso
    have := of_decide_eq_true hc
    omega
  (repeat' (first | exact trivial | exact fun _ => rfl | exact rfl | refine And.intro ?_ ?_))
  refine (t99x h n cap hn).use [0] ?_ (by (repeat' (first | exact trivial | exact rfl | exact fun _ _ => rfl | exact fun _ _ _ _ => rfl | exact Or.inl rfl | exact Or.inr rfl | refine And.intro ?_ ?_))) rfl
  (repeat' (first | exact trivial | exact fun _ => rfl | exact rfl | refine And.intro ?_ ?_))
  refine loopP E_ok [0, 1, 2] (fun _ : Unit => [(6, .int .i64 20)]) (fun _ H => H) (fun _ => True) (fun _ => 0) () trivial ?_ ?_
  · exact ent_tau [0] ⟨by (repeat' (first | exact trivial | exact rfl | exact fun _ _ => rfl | exact fun _ _ _ _ => rfl | exact Or.inl rfl | exact Or.inr rfl | refine And.intro ?_ ?_)), by (repeat' (first | exact trivial | exact rfl | exact congrArg (SV.int .i64) (Int.natCast_succ _).symm | exact congrArg (SV.int .u64) (Int.natCast_succ _).symm | refine And.intro ?_ ?_)), rfl⟩
  rintro _ _
  refine And.intro ?_ (And.intro (fun hc2 => ?_) (fun hc2 => ?_))
  · (repeat' (first | exact trivial | exact fun _ => rfl | exact rfl | refine And.intro ?_ ?_))
  · exfalso
    have := of_decide_eq_true hc2
    omega
  (repeat' (first | exact trivial | exact fun _ => rfl | exact rfl | refine And.intro ?_ ?_))
  exact ent_tau [0] ⟨by (repeat' (first | exact trivial | exact rfl | exact fun _ _ => rfl | exact fun _ _ _ _ => rfl | exact Or.inl rfl | exact Or.inr rfl | refine And.intro ?_ ?_)), by (repeat' (first | exact trivial | exact rfl | exact congrArg (SV.int .i64) (Int.natCast_succ _).symm | exact congrArg (SV.int .u64) (Int.natCast_succ _).symm | refine And.intro ?_ ?_)), rfl⟩
theorem t87 (h : HD) (n cap : Nat) (hn : n ≤ 7) : CallP Try.prog 87 [.slice 0 5 0 n cap, .fn (.func 88) [] []] [some (.arr 5 n cap (rowT h id))] (Ret (.tup []) [some (.arr 5 n cap (rowT h (srtF h.at' n)))]) := by
  refine callR (E := E) E_ok Try.func87 rfl ?_
  (repeat' (first | exact trivial | exact fun _ => rfl | exact rfl | refine And.intro ?_ ?_))
  refine (t96 h n cap hn).use [0] ?_ (by (repeat' (first | exact trivial | exact rfl | exact fun _ _ => rfl | exact fun _ _ _ _ => rfl | exact Or.inl rfl | exact Or.inr rfl | refine And.intro ?_ ?_))) rfl
  (repeat' (first | exact trivial | exact fun _ => rfl | exact rfl | refine And.intro ?_ ?_))
  exact ent_tau [0] ⟨by (repeat' (first | exact trivial | exact rfl | exact fun _ _ => rfl | exact fun _ _ _ _ => rfl | exact Or.inl rfl | exact Or.inr rfl | refine And.intro ?_ ?_)), by (repeat' (first | exact trivial | exact rfl | exact congrArg (SV.int .i64) (Int.natCast_succ _).symm | exact congrArg (SV.int .u64) (Int.natCast_succ _).symm | refine And.intro ?_ ?_)), rfl⟩
/-- No moves: nothing to sort. -/
theorem t99n : CallP Try.prog 99 [.snil, .int .i64 0, .int .i64 0, .fn (.func 88) [] []] [] (Ret (.tup []) []) := by
  refine callR (E := E) E_ok Try.func99 rfl ?_
  (repeat' (first | exact trivial | exact fun _ => rfl | exact rfl | refine And.intro ?_ ?_))
  all_goals first | (first | omega | exact u0 (by omega) | exact u1 (by omega) | exact u1 ⟨by omega, by omega⟩ | exact un (by omega) | exact fun hh => hh | exact fun hh => absurd hh (by decide) | exact fun hh => congrArg not hh | exact fun hh => Bool.noConfusion (show true = false from hh) | exact fun hh => Bool.noConfusion (show false = true from hh)) | skip
  refine loopP E_ok [0, 1, 2, 3] (fun _ : Unit => [(8, .int .i64 1)]) (fun _ H => H) (fun _ => True) (fun _ => 0) () trivial ?_ ?_
  · exact ent_tau [] ⟨by (repeat' (first | exact trivial | exact rfl | exact fun _ _ => rfl | exact fun _ _ _ _ => rfl | exact Or.inl rfl | exact Or.inr rfl | refine And.intro ?_ ?_)), by (repeat' (first | exact trivial | exact rfl | exact congrArg (SV.int .i64) (Int.natCast_succ _).symm | exact congrArg (SV.int .u64) (Int.natCast_succ _).symm | refine And.intro ?_ ?_)), rfl⟩
  rintro _ _
  refine And.intro ?_ (And.intro (fun hc => ?_) (fun hc => ?_))
  · (repeat' (first | exact trivial | exact fun _ => rfl | exact rfl | refine And.intro ?_ ?_))
  · exfalso
    have := of_decide_eq_true hc
    omega
  (repeat' (first | exact trivial | exact fun _ => rfl | exact rfl | refine And.intro ?_ ?_))
  exact ent_tau [] ⟨by (repeat' (first | exact trivial | exact rfl | exact fun _ _ => rfl | exact fun _ _ _ _ => rfl | exact Or.inl rfl | exact Or.inr rfl | refine And.intro ?_ ?_)), by (repeat' (first | exact trivial | exact rfl | exact congrArg (SV.int .i64) (Int.natCast_succ _).symm | exact congrArg (SV.int .u64) (Int.natCast_succ _).symm | refine And.intro ?_ ?_)), rfl⟩
theorem t96n : CallP Try.prog 96 [.snil, .int .i64 0, .fn (.func 88) [] []] [] (Ret (.tup []) []) := by
  refine callR (E := E) E_ok Try.func96 rfl ?_
  (repeat' (first | exact trivial | exact fun _ => rfl | exact rfl | refine And.intro ?_ ?_))
  refine loopP E_ok [0, 1, 2, 6, 7] (fun _ : Unit => [(8, .int .i64 20)]) (fun _ H => H) (fun _ => True) (fun _ => 0) () trivial ?_ ?_
  · exact ent_tau [] ⟨by (repeat' (first | exact trivial | exact rfl | exact fun _ _ => rfl | exact fun _ _ _ _ => rfl | exact Or.inl rfl | exact Or.inr rfl | refine And.intro ?_ ?_)), by (repeat' (first | exact trivial | exact rfl | exact congrArg (SV.int .i64) (Int.natCast_succ _).symm | exact congrArg (SV.int .u64) (Int.natCast_succ _).symm | refine And.intro ?_ ?_)), rfl⟩
  rintro _ _
  refine And.intro ?_ (And.intro (fun hc => ?_) (fun hc => ?_))
  · (repeat' (first | exact trivial | exact fun _ => rfl | exact rfl | refine And.intro ?_ ?_))
  · exfalso
    have := of_decide_eq_true hc
    omega
  (repeat' (first | exact trivial | exact fun _ => rfl | exact rfl | refine And.intro ?_ ?_))
  refine t99n.use [] ?_ trivial rfl
  (repeat' (first | exact trivial | exact fun _ => rfl | exact rfl | refine And.intro ?_ ?_))
  refine loopP E_ok [0, 1, 2] (fun _ : Unit => [(6, .int .i64 20)]) (fun _ H => H) (fun _ => True) (fun _ => 0) () trivial ?_ ?_
  · exact ent_tau [] ⟨by (repeat' (first | exact trivial | exact rfl | exact fun _ _ => rfl | exact fun _ _ _ _ => rfl | exact Or.inl rfl | exact Or.inr rfl | refine And.intro ?_ ?_)), by (repeat' (first | exact trivial | exact rfl | exact congrArg (SV.int .i64) (Int.natCast_succ _).symm | exact congrArg (SV.int .u64) (Int.natCast_succ _).symm | refine And.intro ?_ ?_)), rfl⟩
  rintro _ _
  refine And.intro ?_ (And.intro (fun hc2 => ?_) (fun hc2 => ?_))
  · (repeat' (first | exact trivial | exact fun _ => rfl | exact rfl | refine And.intro ?_ ?_))
  · exfalso
    have := of_decide_eq_true hc2
    omega
  (repeat' (first | exact trivial | exact fun _ => rfl | exact rfl | refine And.intro ?_ ?_))
  exact ent_tau [] ⟨by (repeat' (first | exact trivial | exact rfl | exact fun _ _ => rfl | exact fun _ _ _ _ => rfl | exact Or.inl rfl | exact Or.inr rfl | refine And.intro ?_ ?_)), by (repeat' (first | exact trivial | exact rfl | exact congrArg (SV.int .i64) (Int.natCast_succ _).symm | exact congrArg (SV.int .u64) (Int.natCast_succ _).symm | refine And.intro ?_ ?_)), rfl⟩
theorem t87n : CallP Try.prog 87 [.snil, .fn (.func 88) [] []] [] (Ret (.tup []) []) := by
  refine callR (E := E) E_ok Try.func87 rfl ?_
  (repeat' (first | exact trivial | exact fun _ => rfl | exact rfl | refine And.intro ?_ ?_))
  refine t96n.use [] ?_ trivial rfl
  (repeat' (first | exact trivial | exact fun _ => rfl | exact rfl | refine And.intro ?_ ?_))
  exact ent_tau [] ⟨by (repeat' (first | exact trivial | exact rfl | exact fun _ _ => rfl | exact fun _ _ _ _ => rfl | exact Or.inl rfl | exact Or.inr rfl | refine And.intro ?_ ?_)), by (repeat' (first | exact trivial | exact rfl | exact congrArg (SV.int .i64) (Int.natCast_succ _).symm | exact congrArg (SV.int .u64) (Int.natCast_succ _).symm | refine And.intro ?_ ?_)), rfl⟩
end Go.Proofs.Ytgofhjihkinknaa
/-
  Contracts: when each move begins, by a plan.
-/
namespace Go.Proofs.Ytgofhjihkinknaa
open Go Go.Sy Kuhn
set_option linter.unusedSimpArgs false
set_option maxRecDepth 100000
set_option maxHeartbeats 4000000
attribute [local irreducible] CallP CodeP Ent YieldP
attribute [local irreducible] HD.ch maskO

theorem gget_gset (m : GL) (k v k' : List Int) : (gget (gset m k v) k').map (·.2) = if k' = k then some v else (gget m k').map (·.2) := by
  induction m with
  | nil =>
    simp only [gset, gget, List.nil_append]
    by_cases h : k' = k
    · rw [if_pos h, if_pos h.symm]; rfl
    · rw [if_neg h, if_neg (fun e => h e.symm)]
  | cons p m ih =>
    obtain ⟨a, b⟩ := p
    unfold gset at ih ⊢
    simp only [gget]
    by_cases h : a = k
    · rw [if_pos h]
      simp only [List.set_cons_zero, gget]
      by_cases h2 : k' = k
      · rw [if_pos h2, if_pos h2.symm]; rfl
      · rw [if_neg h2, if_neg (fun e => h2 e.symm), if_neg (fun e => h2 (e.symm.trans h))]
    · rw [if_neg h]
      cases hg : gget m k with
      | none =>
        rw [hg] at ih
        simp only [List.cons_append, gget] at ih ⊢
        by_cases h2 : a = k'
        · rw [if_pos h2, if_pos h2, if_neg (fun e => h (h2.trans e))]
        · rw [if_neg h2, if_neg h2]
          cases h3 : gget (m ++ [(k, v)]) k' with
          | none =>
            rw [h3] at ih
            cases h4 : gget m k' with
            | none => rw [h4] at ih; simpa using ih
            | some q' => rw [h4] at ih; simpa using ih
          | some q =>
            rw [h3] at ih
            cases h4 : gget m k' with
            | none => rw [h4] at ih; simpa using ih
            | some q' => rw [h4] at ih; simpa using ih
      | some q =>
        rw [hg] at ih
        simp only [List.set_cons_succ, gget] at ih ⊢
        by_cases h2 : a = k'
        · rw [if_pos h2, if_pos h2, if_neg (fun e => h (h2.trans e))]
        · rw [if_neg h2, if_neg h2]
          cases h3 : gget (m.set q.1 (k, v)) k' with
          | none =>
            rw [h3] at ih
            cases h4 : gget m k' with
            | none => rw [h4] at ih; simpa using ih
            | some q' => rw [h4] at ih; simpa using ih
          | some q2 =>
            rw [h3] at ih
            cases h4 : gget m k' with
            | none => rw [h4] at ih; simpa using ih
            | some q' => rw [h4] at ih; simpa using ih
theorem gval_of {n : Nat} {m : GL} {k v : List Int} (h : (gget m k).map (·.2) = some v) : gval n m k = v := by
  unfold gval
  cases hg : gget m k with
  | none => rw [hg] at h; cases h
  | some q => rw [hg] at h; exact Option.some.inj h
theorem ghas_of {m : GL} {k : List Int} : ghas m k = ((gget m k).map (·.2)).isSome := by
  unfold ghas
  cases gget m k <;> rfl
/-- What is known of the first ones. -/
def outM (h : HD) (o : Nat → Nat) (T : Nat → Int) (j : Nat) : GL := (List.range j).map fun i => (turnL h (o i), [T (o i)])
theorem turnL_inj {h : HD} {a b : Nat} (e : turnL h a = turnL h b) : a = b := by
  unfold turnL at e
  simp only [List.cons.injEq] at e
  omega
theorem outM_new {h : HD} {o : Nat → Nat} {T : Nat → Int} {j : Nat} {x : Nat} (hx : ∀ i, i < j → o i ≠ x) : gget (outM h o T j) (turnL h x) = none := by
  rcases gget_spec (k := turnL h x) (m := outM h o T j) with ⟨h1, _⟩ | ⟨i, v, h1, h2⟩
  · exact h1
  · exfalso
    have := List.mem_of_getElem? h2
    unfold outM at this
    obtain ⟨i2, h3, h4⟩ := List.mem_map.1 this
    have e := (Prod.mk.inj h4).1
    exact hx i2 (List.mem_range.1 h3) (turnL_inj e)
theorem outM_set {h : HD} {o : Nat → Nat} {T : Nat → Int} {j : Nat} {x : Nat} (hx : ∀ i, i < j → o i ≠ x) (v : List Int) : gset (outM h o T j) (turnL h x) v = outM h o T j ++ [(turnL h x, v)] := by
  unfold gset
  rw [outM_new hx]
theorem gget_app {m : GL} {k v : List Int} (h : gget m k = none) : gget (m ++ [(k, v)]) k = some (m.length, v) := by
  induction m with
  | nil => simp [gget]
  | cons p m ih =>
    obtain ⟨a, b⟩ := p
    simp only [gget] at h
    by_cases c : a = k
    · rw [if_pos c] at h; cases h
    · rw [if_neg c] at h
      have h2 : gget m k = none := by
        cases hg : gget m k with
        | none => rfl
        | some q => rw [hg] at h; cases h
      simp only [List.cons_append, gget, if_neg c, ih h2, List.length_cons]
theorem outM_set2 {h : HD} {o : Nat → Nat} {T : Nat → Int} {j : Nat} {x : Nat} (hx : ∀ i, i < j → o i ≠ x) (v w : List Int) : gset (gset (outM h o T j) (turnL h x) v) (turnL h x) w = outM h o T j ++ [(turnL h x, w)] := by
  rw [outM_set hx]
  unfold gset
  rw [gget_app (outM_new hx)]
  simp [List.set_append_right]
theorem outM_succ {h : HD} {o : Nat → Nat} {T : Nat → Int} {j : Nat} : outM h o T (j + 1) = outM h o T j ++ [(turnL h (o j), [T (o j)])] := by
  unfold outM
  rw [List.range_succ, List.map_append]
  rfl
theorem outM_get {h : HD} {o : Nat → Nat} {T : Nat → Int} {j i : Nat} (hi : i < j) : (gget (outM h o T j) (turnL h (o i))).map (·.2) = some [T (o i)] := by
  rcases gget_spec (k := turnL h (o i)) (m := outM h o T j) with ⟨h1, h2⟩ | ⟨i', v, h1, h2⟩
  · exfalso
    exact h2 (turnL h (o i), [T (o i)]) (List.mem_map.2 ⟨i, List.mem_range.2 hi, rfl⟩) rfl
  · have := List.mem_of_getElem? h2
    unfold outM at this
    obtain ⟨i2, h3, h4⟩ := List.mem_map.1 this
    obtain ⟨e1, e2⟩ := Prod.mk.inj h4
    rw [h1, ← e2, turnL_inj e1]
    rfl
end Go.Proofs.Ytgofhjihkinknaa
