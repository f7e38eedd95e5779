/-
  Parts: P9, Pa.
-/
import Derived.Test.YtgofhjihkinknaaK18
import Derived.Test.YtgofhjihkinknaaK10
set_option linter.unusedVariables false
/-
  Contracts: Busy.
-/
namespace Go.Proofs.Ytgofhjihkinknaa
open Go Go.Sy Kuhn
set_option linter.unusedSimpArgs false
set_option maxRecDepth 100000
set_option maxHeartbeats 4000000
attribute [local irreducible] CallP CodeP Ent YieldP
attribute [local irreducible] HD.ch maskO

/-- How many of the first moves are under way. -/
def bz (h : HD) (s : Bool) (m : Int) : Nat → Int
  | 0 => 0
  | i + 1 => bz h s m i + if h.at' i ≤ m ∧ m < h.at' i + h.takes s i then 1 else 0
theorem bz_le (h : HD) (s : Bool) (m : Int) : ∀ i : Nat, 0 ≤ bz h s m i ∧ bz h s m i ≤ i
  | 0 => ⟨Int.le_refl _, Int.le_refl _⟩
  | i + 1 => by
    have := bz_le h s m i
    rw [bz]
    split <;> omega
open Classical in
/-- How many moves are under way, and the error. -/
noncomputable def HD.bus (h : HD) (m : Int) : Int × Int × Int := if h.Valid then (if inB m 0 220 = true then (bz h false m h.n, bz h true m h.n, 0) else (0, 0, 2)) else (0, 0, 1)
theorem t63 (h : HD) (hv : h.Valid) (s : Bool) (m : Int) (hm : 0 ≤ m ∧ m ≤ 220) : CallP Try.prog 63 [tr s, .ptr 1 0, .ptr 2 0] (HD.H h ++ [some (.roc (bc h)), some (.roc [.int .i64 m])])
    (Ret (.int .i64 (bz h s m h.n)) (HD.H h ++ [some (.roc (bc h)), some (.roc [.int .i64 m])])) := by
  have hn := hv.2.1
  cases s with
  | true =>
    refine callR (E := E) E_ok Try.func63 rfl ?_
    (repeat' (first | exact trivial | exact fun _ => rfl | exact rfl | refine And.intro ?_ ?_))
    refine loopP E_ok [0, 1, 2, 9, 10] (fun i : Nat => [(4, .int .i64 (bz h true m i)), (11, .int .i64 i)]) (fun _ H => H) (fun i => i ≤ h.n) (fun i => h.n - i) 0 (Nat.zero_le _) ?_ ?_
    · exact ent_tau [0, 1, 2] ⟨by (repeat' (first | exact trivial | exact rfl | exact fun _ _ => rfl | exact Or.inl rfl | refine And.intro ?_ ?_)), by (repeat' (first | exact trivial | exact rfl | exact congrArg (SV.int .i64) (Int.natCast_succ _).symm | exact congrArg (SV.int .u64) (Int.natCast_succ _).symm | refine And.intro ?_ ?_)), rfl⟩
    rintro i hi
    have ei := z1 i
    refine And.intro ?_ (And.intro (fun hc => ?_) (fun hc => ?_))
    · (repeat' (first | exact trivial | exact fun _ => rfl | exact rfl | refine And.intro ?_ ?_))
    · have hlt : i < h.n := by
        have := of_decide_eq_true hc
        omega
      have mi := hv.2.2 (0 + ((i : Nat) : Int).toNat) (by omega)
      unfold HD.okMv at mi
      have hb := bz_le h true m i
      have bs : bz h true m (i + 1) = bz h true m i + if h.at' i ≤ m ∧ m < h.at' i + h.takes true i then 1 else 0 := rfl
      have ts := HD.takes_le hv true hlt
      (repeat' (first | exact trivial | exact fun _ => rfl | exact rfl | refine And.intro ?_ ?_))
      all_goals first | (first | omega | exact u0 (by omega) | exact u1 (by omega) | exact u1 ⟨by omega, by omega⟩ | exact un (by omega) | exact fun hh => hh | exact fun hh => absurd hh (by decide) | exact fun hh => congrArg not hh | exact fun hh => Bool.noConfusion (show true = false from hh) | exact fun hh => Bool.noConfusion (show false = true from hh)) | skip
      refine drawP E_ok [1, 2, 3] pl63_4 (by kernel_rfl) ?_
      refine And.intro (And.intro ?_ (And.intro (fun hg => ?_) (fun hg => ?_))) trivial
      · (repeat' (first | exact trivial | exact fun _ => rfl | exact rfl | refine And.intro ?_ ?_))
        all_goals (first | omega | exact u0 (by omega) | exact u1 (by omega) | exact u1 ⟨by omega, by omega⟩ | exact un (by omega) | exact fun hh => hh | exact fun hh => absurd hh (by decide) | exact fun hh => congrArg not hh | exact fun hh => Bool.noConfusion (show true = false from hh) | exact fun hh => Bool.noConfusion (show false = true from hh))
      · have hg2 : h.at' i ≤ m := by simpa [gB, wB, ei] using hg
        refine (t120 _ _ _ _).use [] ?_ trivial rfl
        (repeat' (first | exact trivial | exact fun _ => rfl | exact rfl | refine And.intro ?_ ?_))
        all_goals first | (first | omega | exact u0 (by omega) | exact u1 (by omega) | exact u1 ⟨by omega, by omega⟩ | exact un (by omega) | exact fun hh => hh | exact fun hh => absurd hh (by decide) | exact fun hh => congrArg not hh | exact fun hh => Bool.noConfusion (show true = false from hh) | exact fun hh => Bool.noConfusion (show false = true from hh)) | exact fun _ => hg | exact fun _ _ => hg | (intro _; exact hg) | skip
        · intro hx
          have hx2 : m < h.at' i + h.takes true i := by simpa [ei, hg2, HD.takes] using hx
          rw [if_pos ⟨hg2, hx2⟩] at bs
          (repeat' (first | exact trivial | exact fun _ => rfl | exact rfl | refine And.intro ?_ ?_))
          all_goals first | (first | omega | exact u0 (by omega) | exact u1 (by omega) | exact u1 ⟨by omega, by omega⟩ | exact un (by omega) | exact fun hh => hh | exact fun hh => absurd hh (by decide) | exact fun hh => congrArg not hh | exact fun hh => Bool.noConfusion (show true = false from hh) | exact fun hh => Bool.noConfusion (show false = true from hh)) | skip
          refine ⟨i + 1, hlt, by omega, ?_⟩
          refine ent_tau [0, 1, 2] ⟨by (repeat' (first | exact trivial | exact rfl | exact fun _ _ => rfl | exact Or.inl rfl | refine And.intro ?_ ?_)), ?_, rfl⟩
          (repeat' (first | exact trivial | exact rfl | exact congrArg (SV.int .i64) (Int.natCast_succ _).symm | exact congrArg (SV.int .u64) (Int.natCast_succ _).symm | refine And.intro ?_ ?_))
          exact congrArg (SV.int .i64) bs.symm
        · intro hx
          have hx2 : ¬ m < h.at' i + h.takes true i := by simpa [ei, hg2, HD.takes] using hx
          rw [if_neg (fun h => hx2 h.2), Int.add_zero] at bs
          (repeat' (first | exact trivial | exact fun _ => rfl | exact rfl | refine And.intro ?_ ?_))
          all_goals first | (first | omega | exact u0 (by omega) | exact u1 (by omega) | exact u1 ⟨by omega, by omega⟩ | exact un (by omega) | exact fun hh => hh | exact fun hh => absurd hh (by decide) | exact fun hh => congrArg not hh | exact fun hh => Bool.noConfusion (show true = false from hh) | exact fun hh => Bool.noConfusion (show false = true from hh)) | skip
          refine ⟨i + 1, hlt, by omega, ?_⟩
          refine ent_tau [0, 1, 2] ⟨by (repeat' (first | exact trivial | exact rfl | exact fun _ _ => rfl | exact Or.inl rfl | refine And.intro ?_ ?_)), ?_, rfl⟩
          (repeat' (first | exact trivial | exact rfl | exact congrArg (SV.int .i64) (Int.natCast_succ _).symm | exact congrArg (SV.int .u64) (Int.natCast_succ _).symm | refine And.intro ?_ ?_))
          exact congrArg (SV.int .i64) bs.symm
      · have hg2 : ¬ h.at' i ≤ m := by simpa [gB, wB, ei] using hg
        rw [if_neg (fun h => hg2 h.1), Int.add_zero] at bs
        (repeat' (first | exact trivial | exact fun _ => rfl | exact rfl | refine And.intro ?_ ?_))
        all_goals first | (first | omega | exact u0 (by omega) | exact u1 (by omega) | exact u1 ⟨by omega, by omega⟩ | exact un (by omega) | exact fun hh => hh | exact fun hh => absurd hh (by decide) | exact fun hh => congrArg not hh | exact fun hh => Bool.noConfusion (show true = false from hh) | exact fun hh => Bool.noConfusion (show false = true from hh)) | exact fun hh => absurd (hg.symm.trans hh) (by decide) | exact fun hh => absurd (hh.symm.trans hg) (by decide) | skip
        all_goals intro hx
        all_goals first | (exfalso; revert hx; simp [ei, hg2]; done) | skip
        (repeat' (first | exact trivial | exact fun _ => rfl | exact rfl | refine And.intro ?_ ?_))
        all_goals first | (first | omega | exact u0 (by omega) | exact u1 (by omega) | exact u1 ⟨by omega, by omega⟩ | exact un (by omega) | exact fun hh => hh | exact fun hh => absurd hh (by decide) | exact fun hh => congrArg not hh | exact fun hh => Bool.noConfusion (show true = false from hh) | exact fun hh => Bool.noConfusion (show false = true from hh)) | skip
        refine ⟨i + 1, hlt, by omega, ?_⟩
        refine ent_tau [0, 1, 2] ⟨by (repeat' (first | exact trivial | exact rfl | exact fun _ _ => rfl | exact Or.inl rfl | refine And.intro ?_ ?_)), ?_, rfl⟩
        (repeat' (first | exact trivial | exact rfl | exact congrArg (SV.int .i64) (Int.natCast_succ _).symm | exact congrArg (SV.int .u64) (Int.natCast_succ _).symm | refine And.intro ?_ ?_))
        exact congrArg (SV.int .i64) bs.symm
    · have e : i = h.n := by
        have := of_decide_eq_false hc
        omega
      subst e
      (repeat' (first | exact trivial | exact fun _ => rfl | exact rfl | refine And.intro ?_ ?_))
      exact ent_tau [0, 1, 2] ⟨by (repeat' (first | exact trivial | exact rfl | exact fun _ _ => rfl | exact Or.inl rfl | refine And.intro ?_ ?_)), by (repeat' (first | exact trivial | exact rfl | exact congrArg (SV.int .i64) (Int.natCast_succ _).symm | exact congrArg (SV.int .u64) (Int.natCast_succ _).symm | refine And.intro ?_ ?_)), rfl⟩
  | false =>
    refine callR (E := E) E_ok Try.func63 rfl ?_
    (repeat' (first | exact trivial | exact fun _ => rfl | exact rfl | refine And.intro ?_ ?_))
    refine loopP E_ok [0, 1, 2, 9, 10] (fun i : Nat => [(4, .int .i64 (bz h false m i)), (11, .int .i64 i)]) (fun _ H => H) (fun i => i ≤ h.n) (fun i => h.n - i) 0 (Nat.zero_le _) ?_ ?_
    · exact ent_tau [0, 1, 2] ⟨by (repeat' (first | exact trivial | exact rfl | exact fun _ _ => rfl | exact Or.inl rfl | refine And.intro ?_ ?_)), by (repeat' (first | exact trivial | exact rfl | exact congrArg (SV.int .i64) (Int.natCast_succ _).symm | exact congrArg (SV.int .u64) (Int.natCast_succ _).symm | refine And.intro ?_ ?_)), rfl⟩
    rintro i hi
    have ei := z1 i
    refine And.intro ?_ (And.intro (fun hc => ?_) (fun hc => ?_))
    · (repeat' (first | exact trivial | exact fun _ => rfl | exact rfl | refine And.intro ?_ ?_))
    · have hlt : i < h.n := by
        have := of_decide_eq_true hc
        omega
      have mi := hv.2.2 (0 + ((i : Nat) : Int).toNat) (by omega)
      unfold HD.okMv at mi
      have hb := bz_le h false m i
      have bs : bz h false m (i + 1) = bz h false m i + if h.at' i ≤ m ∧ m < h.at' i + h.takes false i then 1 else 0 := rfl
      have ts := HD.takes_le hv false hlt
      (repeat' (first | exact trivial | exact fun _ => rfl | exact rfl | refine And.intro ?_ ?_))
      all_goals first | (first | omega | exact u0 (by omega) | exact u1 (by omega) | exact u1 ⟨by omega, by omega⟩ | exact un (by omega) | exact fun hh => hh | exact fun hh => absurd hh (by decide) | exact fun hh => congrArg not hh | exact fun hh => Bool.noConfusion (show true = false from hh) | exact fun hh => Bool.noConfusion (show false = true from hh)) | skip
      refine drawP E_ok [1, 2, 3] pl63_4 (by kernel_rfl) ?_
      refine And.intro (And.intro ?_ (And.intro (fun hg => ?_) (fun hg => ?_))) trivial
      · (repeat' (first | exact trivial | exact fun _ => rfl | exact rfl | refine And.intro ?_ ?_))
        all_goals (first | omega | exact u0 (by omega) | exact u1 (by omega) | exact u1 ⟨by omega, by omega⟩ | exact un (by omega) | exact fun hh => hh | exact fun hh => absurd hh (by decide) | exact fun hh => congrArg not hh | exact fun hh => Bool.noConfusion (show true = false from hh) | exact fun hh => Bool.noConfusion (show false = true from hh))
      · have hg2 : h.at' i ≤ m := by simpa [gB, wB, ei] using hg
        refine (t121 _ _ _ _).use [] ?_ trivial rfl
        (repeat' (first | exact trivial | exact fun _ => rfl | exact rfl | refine And.intro ?_ ?_))
        all_goals first | (first | omega | exact u0 (by omega) | exact u1 (by omega) | exact u1 ⟨by omega, by omega⟩ | exact un (by omega) | exact fun hh => hh | exact fun hh => absurd hh (by decide) | exact fun hh => congrArg not hh | exact fun hh => Bool.noConfusion (show true = false from hh) | exact fun hh => Bool.noConfusion (show false = true from hh)) | exact fun _ => hg | exact fun _ _ => hg | (intro _; exact hg) | skip
        · intro hx
          have hx2 : m < h.at' i + h.takes false i := by simpa [ei, hg2, HD.takes] using hx
          rw [if_pos ⟨hg2, hx2⟩] at bs
          (repeat' (first | exact trivial | exact fun _ => rfl | exact rfl | refine And.intro ?_ ?_))
          all_goals first | (first | omega | exact u0 (by omega) | exact u1 (by omega) | exact u1 ⟨by omega, by omega⟩ | exact un (by omega) | exact fun hh => hh | exact fun hh => absurd hh (by decide) | exact fun hh => congrArg not hh | exact fun hh => Bool.noConfusion (show true = false from hh) | exact fun hh => Bool.noConfusion (show false = true from hh)) | skip
          refine ⟨i + 1, hlt, by omega, ?_⟩
          refine ent_tau [0, 1, 2] ⟨by (repeat' (first | exact trivial | exact rfl | exact fun _ _ => rfl | exact Or.inl rfl | refine And.intro ?_ ?_)), ?_, rfl⟩
          (repeat' (first | exact trivial | exact rfl | exact congrArg (SV.int .i64) (Int.natCast_succ _).symm | exact congrArg (SV.int .u64) (Int.natCast_succ _).symm | refine And.intro ?_ ?_))
          exact congrArg (SV.int .i64) bs.symm
        · intro hx
          have hx2 : ¬ m < h.at' i + h.takes false i := by simpa [ei, hg2, HD.takes] using hx
          rw [if_neg (fun h => hx2 h.2), Int.add_zero] at bs
          (repeat' (first | exact trivial | exact fun _ => rfl | exact rfl | refine And.intro ?_ ?_))
          all_goals first | (first | omega | exact u0 (by omega) | exact u1 (by omega) | exact u1 ⟨by omega, by omega⟩ | exact un (by omega) | exact fun hh => hh | exact fun hh => absurd hh (by decide) | exact fun hh => congrArg not hh | exact fun hh => Bool.noConfusion (show true = false from hh) | exact fun hh => Bool.noConfusion (show false = true from hh)) | skip
          refine ⟨i + 1, hlt, by omega, ?_⟩
          refine ent_tau [0, 1, 2] ⟨by (repeat' (first | exact trivial | exact rfl | exact fun _ _ => rfl | exact Or.inl rfl | refine And.intro ?_ ?_)), ?_, rfl⟩
          (repeat' (first | exact trivial | exact rfl | exact congrArg (SV.int .i64) (Int.natCast_succ _).symm | exact congrArg (SV.int .u64) (Int.natCast_succ _).symm | refine And.intro ?_ ?_))
          exact congrArg (SV.int .i64) bs.symm
      · have hg2 : ¬ h.at' i ≤ m := by simpa [gB, wB, ei] using hg
        rw [if_neg (fun h => hg2 h.1), Int.add_zero] at bs
        (repeat' (first | exact trivial | exact fun _ => rfl | exact rfl | refine And.intro ?_ ?_))
        all_goals first | (first | omega | exact u0 (by omega) | exact u1 (by omega) | exact u1 ⟨by omega, by omega⟩ | exact un (by omega) | exact fun hh => hh | exact fun hh => absurd hh (by decide) | exact fun hh => congrArg not hh | exact fun hh => Bool.noConfusion (show true = false from hh) | exact fun hh => Bool.noConfusion (show false = true from hh)) | exact fun hh => absurd (hg.symm.trans hh) (by decide) | exact fun hh => absurd (hh.symm.trans hg) (by decide) | skip
        all_goals intro hx
        all_goals first | (exfalso; revert hx; simp [ei, hg2]; done) | skip
        (repeat' (first | exact trivial | exact fun _ => rfl | exact rfl | refine And.intro ?_ ?_))
        all_goals first | (first | omega | exact u0 (by omega) | exact u1 (by omega) | exact u1 ⟨by omega, by omega⟩ | exact un (by omega) | exact fun hh => hh | exact fun hh => absurd hh (by decide) | exact fun hh => congrArg not hh | exact fun hh => Bool.noConfusion (show true = false from hh) | exact fun hh => Bool.noConfusion (show false = true from hh)) | skip
        refine ⟨i + 1, hlt, by omega, ?_⟩
        refine ent_tau [0, 1, 2] ⟨by (repeat' (first | exact trivial | exact rfl | exact fun _ _ => rfl | exact Or.inl rfl | refine And.intro ?_ ?_)), ?_, rfl⟩
        (repeat' (first | exact trivial | exact rfl | exact congrArg (SV.int .i64) (Int.natCast_succ _).symm | exact congrArg (SV.int .u64) (Int.natCast_succ _).symm | refine And.intro ?_ ?_))
        exact congrArg (SV.int .i64) bs.symm
    · have e : i = h.n := by
        have := of_decide_eq_false hc
        omega
      subst e
      (repeat' (first | exact trivial | exact fun _ => rfl | exact rfl | refine And.intro ?_ ?_))
      exact ent_tau [0, 1, 2] ⟨by (repeat' (first | exact trivial | exact rfl | exact fun _ _ => rfl | exact Or.inl rfl | refine And.intro ?_ ?_)), by (repeat' (first | exact trivial | exact rfl | exact congrArg (SV.int .i64) (Int.natCast_succ _).symm | exact congrArg (SV.int .u64) (Int.natCast_succ _).symm | refine And.intro ?_ ?_)), rfl⟩
theorem t22 (h : HD) (m : Int) : CallP Try.prog 22 [HD.A h, .int .i64 m] (HD.H h) (Ret (.tup [.agg [.int .i64 (HD.bus h m).1, .int .i64 (HD.bus h m).2.1], .int .i64 (HD.bus h m).2.2]) (HD.H h)) := by
  obtain ⟨c, hc⟩ : ∃ c, inB m 0 220 = c := ⟨_, rfl⟩
  have c47 := t47_1 h m 61 (.inl rfl) c fun hv => by
    rw [← hc]
    exact t61 h m
  obtain ⟨r, hr⟩ : ∃ r, HD.bus h m = r := ⟨_, rfl⟩
  rw [hr]
  refine callDR (E := E) E_ok Try.func22 rfl (g := 46) (k1 := 5) (k2 := 2) Try.func46 isrec46 rfl ?_
  (repeat' (first | exact trivial | exact fun _ => rfl | exact rfl | refine And.intro ?_ ?_))
  refine CallP.frameH c47 [0, 2] (by (repeat' (first | exact trivial | exact rfl | exact fun _ _ => rfl | exact fun _ _ _ _ => rfl | exact Or.inl rfl | exact Or.inr rfl | refine And.intro ?_ ?_))) rfl ?_
  rintro ce h' (⟨hv, hc1, rfl, rfl⟩ | ⟨hv, rfl, rfl⟩ | ⟨hv, hc1, rfl, rfl⟩)
  · refine ⟨rfl, ?_⟩
    rw [hc1] at hc
    have er : HD.bus h m = (bz h false m h.n, bz h true m h.n, 0) := by
      unfold HD.bus
      rw [if_pos hv, if_pos hc]
    rw [hr] at er
    subst er
    have hm := inB_iff.1 hc
    (repeat' (first | exact trivial | exact fun _ => rfl | exact rfl | refine And.intro ?_ ?_))
    refine (t63 h hv false m hm).use [0, 5, 2] ?_ (by (repeat' (first | exact trivial | exact rfl | exact fun _ _ => rfl | exact fun _ _ _ _ => rfl | exact Or.inl rfl | exact Or.inr rfl | refine And.intro ?_ ?_))) rfl
    (repeat' (first | exact trivial | exact fun _ => rfl | exact rfl | refine And.intro ?_ ?_))
    refine (t63 h hv true m hm).use [0, 5, 2] ?_ (by (repeat' (first | exact trivial | exact rfl | exact fun _ _ => rfl | exact fun _ _ _ _ => rfl | exact Or.inl rfl | exact Or.inr rfl | refine And.intro ?_ ?_))) rfl
    (repeat' (first | exact trivial | exact fun _ => rfl | exact rfl | refine And.intro ?_ ?_))
    all_goals first | (first | omega | exact u0 (by omega) | exact u1 (by omega) | exact u1 ⟨by omega, by omega⟩ | exact un (by omega) | exact fun hh => hh | exact fun hh => absurd hh (by decide) | exact fun hh => congrArg not hh | exact fun hh => Bool.noConfusion (show true = false from hh) | exact fun hh => Bool.noConfusion (show false = true from hh)) | skip
    intro _
    (repeat' (first | exact trivial | exact fun _ => rfl | exact rfl | refine And.intro ?_ ?_))
    all_goals first | (first | omega | exact u0 (by omega) | exact u1 (by omega) | exact u1 ⟨by omega, by omega⟩ | exact un (by omega) | exact fun hh => hh | exact fun hh => absurd hh (by decide) | exact fun hh => congrArg not hh | exact fun hh => Bool.noConfusion (show true = false from hh) | exact fun hh => Bool.noConfusion (show false = true from hh)) | skip
    refine ⟨_, _, ⟨rfl, rfl⟩, ?_⟩
    exact ent_tau [0] ⟨by (repeat' (first | exact trivial | exact rfl | exact fun _ _ => rfl | exact Or.inl rfl | refine And.intro ?_ ?_)), by (repeat' (first | exact trivial | exact rfl | exact congrArg (SV.int .i64) (Int.natCast_succ _).symm | exact congrArg (SV.int .u64) (Int.natCast_succ _).symm | refine And.intro ?_ ?_)), rfl⟩
  · refine ⟨rfl, ?_⟩
    have er : HD.bus h m = (0, 0, 1) := if_neg hv
    rw [hr] at er
    subst er
    (repeat' (first | exact trivial | exact fun _ => rfl | exact rfl | refine And.intro ?_ ?_))
    all_goals first | (first | omega | exact u0 (by omega) | exact u1 (by omega) | exact u1 ⟨by omega, by omega⟩ | exact un (by omega) | exact fun hh => hh | exact fun hh => absurd hh (by decide) | exact fun hh => congrArg not hh | exact fun hh => Bool.noConfusion (show true = false from hh) | exact fun hh => Bool.noConfusion (show false = true from hh)) | skip
    intro _
    (repeat' (first | exact trivial | exact fun _ => rfl | exact rfl | refine And.intro ?_ ?_))
    all_goals first | (first | omega | exact u0 (by omega) | exact u1 (by omega) | exact u1 ⟨by omega, by omega⟩ | exact un (by omega) | exact fun hh => hh | exact fun hh => absurd hh (by decide) | exact fun hh => congrArg not hh | exact fun hh => Bool.noConfusion (show true = false from hh) | exact fun hh => Bool.noConfusion (show false = true from hh)) | skip
    intro _
    (repeat' (first | exact trivial | exact fun _ => rfl | exact rfl | refine And.intro ?_ ?_))
    all_goals first | (first | omega | exact u0 (by omega) | exact u1 (by omega) | exact u1 ⟨by omega, by omega⟩ | exact un (by omega) | exact fun hh => hh | exact fun hh => absurd hh (by decide) | exact fun hh => congrArg not hh | exact fun hh => Bool.noConfusion (show true = false from hh) | exact fun hh => Bool.noConfusion (show false = true from hh)) | skip
    refine ⟨_, _, ⟨rfl, rfl⟩, ?_⟩
    exact ent_tau [0] ⟨by (repeat' (first | exact trivial | exact rfl | exact fun _ _ => rfl | exact Or.inl rfl | refine And.intro ?_ ?_)), by (repeat' (first | exact trivial | exact rfl | exact congrArg (SV.int .i64) (Int.natCast_succ _).symm | exact congrArg (SV.int .u64) (Int.natCast_succ _).symm | refine And.intro ?_ ?_)), rfl⟩
  · refine ⟨rfl, ?_⟩
    have er : HD.bus h m = (0, 0, 2) := by
      unfold HD.bus
      rw [if_pos hv, if_neg]
      intro h1
      rw [h1, hc1] at hc
      cases hc
    rw [hr] at er
    subst er
    (repeat' (first | exact trivial | exact fun _ => rfl | exact rfl | refine And.intro ?_ ?_))
    all_goals first | (first | omega | exact u0 (by omega) | exact u1 (by omega) | exact u1 ⟨by omega, by omega⟩ | exact un (by omega) | exact fun hh => hh | exact fun hh => absurd hh (by decide) | exact fun hh => congrArg not hh | exact fun hh => Bool.noConfusion (show true = false from hh) | exact fun hh => Bool.noConfusion (show false = true from hh)) | skip
    intro _
    (repeat' (first | exact trivial | exact fun _ => rfl | exact rfl | refine And.intro ?_ ?_))
    all_goals first | (first | omega | exact u0 (by omega) | exact u1 (by omega) | exact u1 ⟨by omega, by omega⟩ | exact un (by omega) | exact fun hh => hh | exact fun hh => absurd hh (by decide) | exact fun hh => congrArg not hh | exact fun hh => Bool.noConfusion (show true = false from hh) | exact fun hh => Bool.noConfusion (show false = true from hh)) | skip
    intro _
    (repeat' (first | exact trivial | exact fun _ => rfl | exact rfl | refine And.intro ?_ ?_))
    all_goals first | (first | omega | exact u0 (by omega) | exact u1 (by omega) | exact u1 ⟨by omega, by omega⟩ | exact un (by omega) | exact fun hh => hh | exact fun hh => absurd hh (by decide) | exact fun hh => congrArg not hh | exact fun hh => Bool.noConfusion (show true = false from hh) | exact fun hh => Bool.noConfusion (show false = true from hh)) | skip
    refine ⟨_, _, ⟨rfl, rfl⟩, ?_⟩
    exact ent_tau [0] ⟨by (repeat' (first | exact trivial | exact rfl | exact fun _ _ => rfl | exact Or.inl rfl | refine And.intro ?_ ?_)), by (repeat' (first | exact trivial | exact rfl | exact congrArg (SV.int .i64) (Int.natCast_succ _).symm | exact congrArg (SV.int .u64) (Int.natCast_succ _).symm | refine And.intro ?_ ?_)), rfl⟩
end Go.Proofs.Ytgofhjihkinknaa
/-
  Contracts: Check.
-/
namespace Go.Proofs.Ytgofhjihkinknaa
open Go Go.Sy Kuhn
set_option linter.unusedSimpArgs false
set_option maxRecDepth 100000
set_option maxHeartbeats 4000000
attribute [local irreducible] CallP CodeP Ent YieldP
attribute [local irreducible] HD.ch maskO

/-- Two moves of one horse of which none can follow the other one. -/
def twoBad (h : HD) (s : Bool) (pl : PD) (i k : Nat) : Prop := pl.p i = pl.p k ∧ h.apart s i k = true
/-- What Check tells. -/
def Chk (h : HD) (s : Bool) (pl : PD) (r : Int × Int × Int) : Prop :=
  (¬ h.Valid ∧ r = (0, 0, 1)) ∨ (h.Valid ∧ pok h pl = false ∧ r = (0, 0, 2)) ∨
  (h.Valid ∧ pok h pl = true ∧ ((∃ i k : Nat, (i < k ∧ k < h.n ∧ twoBad h s pl i k) ∧ (∀ i' k', i' < k' → k' < h.n → twoBad h s pl i' k' → i < i' ∨ i = i' ∧ k ≤ k') ∧ r = ((i : Int), (k : Int), 0)) ∨
    ((∀ i k, i < k → k < h.n → ¬ twoBad h s pl i k) ∧ r = (0, 0, 4))))
theorem Chk.one {h : HD} {s : Bool} {pl : PD} {r r' : Int × Int × Int} (H : Chk h s pl r) (H' : Chk h s pl r') : r = r' := by
  rcases H with ⟨a, rfl⟩ | ⟨a, b, rfl⟩ | ⟨a, b, c⟩ <;> rcases H' with ⟨a', rfl⟩ | ⟨a', b', rfl⟩ | ⟨a', b', c'⟩
  · rfl
  · exact absurd a' a
  · exact absurd a' a
  · exact absurd a a'
  · rfl
  · rw [b] at b'
    cases b'
  · exact absurd a a'
  · rw [b] at b'
    cases b'
  · rcases c with ⟨i, k, ⟨x1, x2, x3⟩, x4, rfl⟩ | ⟨x, rfl⟩ <;> rcases c' with ⟨i', k', ⟨y1, y2, y3⟩, y4, rfl⟩ | ⟨y, rfl⟩
    · have e1 := x4 i' k' y1 y2 y3
      have e2 := y4 i k x1 x2 x3
      have : i = i' ∧ k = k' := by omega
      rw [this.1, this.2]
    · exact absurd x3 (y i k x1 x2)
    · exact absurd y3 (x i' k' y1 y2)
    · rfl
open Classical in
noncomputable def HD.chk (h : HD) (s : Bool) (pl : PD) : Int × Int × Int := if H : ∃ r, Chk h s pl r then H.choose else (0, 0, 0)
theorem chk_is {h : HD} {s : Bool} {pl : PD} {r : Int × Int × Int} (H : Chk h s pl r) : HD.chk h s pl = r := by
  unfold HD.chk
  have hex : ∃ r, Chk h s pl r := ⟨r, H⟩
  rw [dif_pos hex]
  exact hex.choose_spec.one H
theorem t18 (h : HD) (pl : PD) (hn : pl.n ≤ 1000000) (s : Bool) : CallP Try.prog 18 [HD.A h, .osl pl.b 1 1 pl.n pl.cap, .bool s] (HD.H h ++ [some (.roa 1 pl.n (PD.F pl))])
    (Ret (.tup [.int .i64 (HD.chk h s pl).1, .int .i64 (HD.chk h s pl).2.1, .int .i64 (HD.chk h s pl).2.2]) (HD.H h ++ [some (.roa 1 pl.n (PD.F pl))])) := by
  obtain ⟨c, hc⟩ : ∃ c, pok h pl = c := ⟨_, rfl⟩
  have c47 := t47_3 h pl 85 (.inl rfl) c fun hv => by
    rw [← hc]
    exact t85 h pl hn
  obtain ⟨r, hr⟩ : ∃ r, HD.chk h s pl = r := ⟨_, rfl⟩
  rw [hr]
  refine callDR (E := E) E_ok Try.func18 rfl (g := 46) (k1 := 5) (k2 := 2) Try.func46 isrec46 rfl ?_
  (repeat' (first | exact trivial | exact fun _ => rfl | exact rfl | refine And.intro ?_ ?_))
  refine drawQ E_ok [2] pl18_2 (by kernel_rfl) ?_
  refine And.intro (And.intro ?_ ?_) trivial
  · (repeat' (first | exact trivial | exact fun _ => rfl | exact rfl | refine And.intro ?_ ?_))
  refine (t55 pl).use [1] ?_ (by (repeat' (first | exact trivial | exact rfl | exact fun _ _ => rfl | exact fun _ _ _ _ => rfl | exact Or.inl rfl | exact Or.inr rfl | refine And.intro ?_ ?_))) rfl
  refine And.intro (And.intro ?_ ?_) trivial
  · (repeat' (first | exact trivial | exact fun _ => rfl | exact rfl | refine And.intro ?_ ?_))
  refine CallP.frameH c47 [0, 1, 4, 5] (by (repeat' (first | exact trivial | exact rfl | exact fun _ _ => rfl | exact fun _ _ _ _ => rfl | exact Or.inl rfl | exact Or.inr rfl | refine And.intro ?_ ?_))) rfl ?_
  rintro ce h' (⟨hv, hc1, rfl, rfl⟩ | ⟨hv, rfl, rfl⟩ | ⟨hv, hc1, rfl, rfl⟩)
  · refine ⟨rfl, ?_⟩
    rw [hc1] at hc
    have hn7 := hv.2.1
    have hpn : pl.n = h.n := by
      unfold pok at hc
      simp only [Bool.and_eq_true, decide_eq_true_eq] at hc
      exact hc.1
    have bt : ∀ i k, i < h.n → k < h.n → (h.ch s i).testBit k = h.can s i k := fun i k hi hk => by
      rw [HD.ch_bit, decide_eq_true hi, decide_eq_true hk]
      rfl
    have c57 : ∀ i k : Nat, i < h.n → k < h.n → CallP Try.prog 57 [.agg (chI fun j => (h.ch s j : Nat)), .int .i64 i, .int .i64 k] [] (Ret (.bool (h.apart s i k)) []) := fun i k hi hk => by
      have := t57 (h.ch s) (fun j _ => HD.ch_lt hn7 s j) i k (by omega) (by omega)
      rw [bt i k hi hk, bt k i hk hi] at this
      exact this
    refine And.intro (And.intro ?_ ?_) trivial
    · (repeat' (first | exact trivial | exact fun _ => rfl | exact rfl | refine And.intro ?_ ?_))
    refine (t56 s).use [] ?_ trivial rfl
    refine And.intro (And.intro ?_ ?_) trivial
    · (repeat' (first | exact trivial | exact fun _ => rfl | exact rfl | refine And.intro ?_ ?_))
    refine (t50 h hv s).use [0] ?_ (by (repeat' (first | exact trivial | exact rfl | exact fun _ _ => rfl | exact fun _ _ _ _ => rfl | exact Or.inl rfl | exact Or.inr rfl | refine And.intro ?_ ?_))) rfl
    (repeat' (first | exact trivial | exact fun _ => rfl | exact rfl | refine And.intro ?_ ?_))
    all_goals first | (first | omega | exact u0 (by omega) | exact u1 (by omega) | exact u1 ⟨by omega, by omega⟩ | exact un (by omega) | exact fun hh => hh | exact fun hh => absurd hh (by decide) | exact fun hh => congrArg not hh | exact fun hh => Bool.noConfusion (show true = false from hh) | exact fun hh => Bool.noConfusion (show false = true from hh)) | skip
    refine loopP E_ok [1, 8, 9, 21] (fun i : Nat => [(22, .int .i64 i)]) (fun _ H => H) (fun i => i ≤ h.n ∧ ∀ i' k', i' < i → i' < k' → k' < h.n → ¬ twoBad h s pl i' k') (fun i => h.n - i) 0 ⟨Nat.zero_le _, fun i' k' hh => by omega⟩ ?_ ?_
    · exact ent_tau [0, 1, 2, 3, 4, 5] ⟨by (repeat' (first | exact trivial | exact rfl | exact fun _ _ => rfl | exact Or.inl rfl | refine And.intro ?_ ?_)), by (repeat' (first | exact trivial | exact rfl | exact congrArg (SV.int .i64) (Int.natCast_succ _).symm | exact congrArg (SV.int .u64) (Int.natCast_succ _).symm | refine And.intro ?_ ?_)), rfl⟩
    rintro i ⟨hi, hall⟩
    have ei := z1 i
    refine And.intro ?_ (And.intro (fun hlt => ?_) (fun hlt => ?_))
    · (repeat' (first | exact trivial | exact fun _ => rfl | exact rfl | refine And.intro ?_ ?_))
    · have hlt' : i < h.n := by
        have := of_decide_eq_true hlt
        omega
      (repeat' (first | exact trivial | exact fun _ => rfl | exact rfl | refine And.intro ?_ ?_))
      all_goals first | (first | omega | exact u0 (by omega) | exact u1 (by omega) | exact u1 ⟨by omega, by omega⟩ | exact un (by omega) | exact fun hh => hh | exact fun hh => absurd hh (by decide) | exact fun hh => congrArg not hh | exact fun hh => Bool.noConfusion (show true = false from hh) | exact fun hh => Bool.noConfusion (show false = true from hh)) | skip
      refine loopP E_ok [1, 8, 9, 10, 21, 22] (fun k : Nat => [(11, .int .i64 k)]) (fun _ H => H) (fun k => (i < k ∧ k ≤ h.n) ∧ ∀ k', i < k' → k' < k → ¬ twoBad h s pl i k') (fun k => h.n - k) (i + 1) ⟨⟨by omega, by omega⟩, fun k' h1 h2 => by omega⟩ ?_ ?_
      · exact ent_tau [0, 1, 2, 3, 4, 5] ⟨by (repeat' (first | exact trivial | exact rfl | exact fun _ _ => rfl | exact Or.inl rfl | refine And.intro ?_ ?_)), by (repeat' (first | exact trivial | exact rfl | exact congrArg (SV.int .i64) (Int.natCast_succ _).symm | exact congrArg (SV.int .u64) (Int.natCast_succ _).symm | refine And.intro ?_ ?_)), rfl⟩
      rintro k ⟨⟨hik, hk⟩, hal2⟩
      have ek := z1 k
      refine And.intro ?_ (And.intro (fun hlk => ?_) (fun hlk => ?_))
      · (repeat' (first | exact trivial | exact fun _ => rfl | exact rfl | refine And.intro ?_ ?_))
      · have hlk' : k < h.n := by
          have := of_decide_eq_true hlk
          omega
        have next : ¬ twoBad h s pl i k → ∀ k', i < k' → k' < k + 1 → ¬ twoBad h s pl i k' := fun hb k' h1 h2 => by
          by_cases c : k' = k
          · rw [c]
            exact hb
          · exact hal2 k' h1 (by omega)
        refine And.intro trivial ?_
        refine drawP E_ok [] pl18_9 (by kernel_rfl) ?_
        refine And.intro (And.intro ?_ (And.intro (fun hg => ?_) (fun hg => ?_))) trivial
        · (repeat' (first | exact trivial | exact fun _ => rfl | exact rfl | refine And.intro ?_ ?_))
          all_goals (first | omega | exact u0 (by omega) | exact u1 (by omega) | exact u1 ⟨by omega, by omega⟩ | exact un (by omega) | exact fun hh => hh | exact fun hh => absurd hh (by decide) | exact fun hh => congrArg not hh | exact fun hh => Bool.noConfusion (show true = false from hh) | exact fun hh => Bool.noConfusion (show false = true from hh))
        · have hg2 : pl.p i = pl.p k := by simpa [gB, wB, ei, ek] using hg
          refine (c57 i k hlt' hlk').use [] ?_ trivial rfl
          obtain ⟨b, hb⟩ : ∃ b, h.apart s i k = b := ⟨_, rfl⟩
          rw [hb]
          cases b with
          | true =>
            (repeat' (first | exact trivial | exact fun _ => rfl | exact rfl | refine And.intro ?_ ?_))
            all_goals first | (first | omega | exact u0 (by omega) | exact u1 (by omega) | exact u1 ⟨by omega, by omega⟩ | exact un (by omega) | exact fun hh => hh | exact fun hh => absurd hh (by decide) | exact fun hh => congrArg not hh | exact fun hh => Bool.noConfusion (show true = false from hh) | exact fun hh => Bool.noConfusion (show false = true from hh)) | exact fun _ => hg | exact fun _ _ => hg | skip
            · intro _
              have er : HD.chk h s pl = ((i : Int), (k : Int), 0) := chk_is (.inr (.inr ⟨hv, hc, .inl ⟨i, k, ⟨hik, hlk', hg2, hb⟩, fun i' k' h1 h2 h3 => by
                rcases Nat.lt_trichotomy i' i with c | c | c
                · exact absurd h3 (hall i' k' c h1 h2)
                · right
                  rw [c] at h3 h1
                  by_cases c2 : k' < k
                  · exact absurd h3 (hal2 k' h1 c2)
                  · omega
                · exact .inl c, rfl⟩⟩))
              rw [hr] at er
              subst er
              (repeat' (first | exact trivial | exact fun _ => rfl | exact rfl | refine And.intro ?_ ?_))
              all_goals first | (first | omega | exact u0 (by omega) | exact u1 (by omega) | exact u1 ⟨by omega, by omega⟩ | exact un (by omega) | exact fun hh => hh | exact fun hh => absurd hh (by decide) | exact fun hh => congrArg not hh | exact fun hh => Bool.noConfusion (show true = false from hh) | exact fun hh => Bool.noConfusion (show false = true from hh)) | skip
              intro _
              (repeat' (first | exact trivial | exact fun _ => rfl | exact rfl | refine And.intro ?_ ?_))
              all_goals first | (first | omega | exact u0 (by omega) | exact u1 (by omega) | exact u1 ⟨by omega, by omega⟩ | exact un (by omega) | exact fun hh => hh | exact fun hh => absurd hh (by decide) | exact fun hh => congrArg not hh | exact fun hh => Bool.noConfusion (show true = false from hh) | exact fun hh => Bool.noConfusion (show false = true from hh)) | skip
              refine ⟨_, _, ⟨rfl, rfl⟩, ?_⟩
              exact ent_tau [0, 1] ⟨by (repeat' (first | exact trivial | exact rfl | exact fun _ _ => rfl | exact Or.inl rfl | refine And.intro ?_ ?_)), by (repeat' (first | exact trivial | exact rfl | exact congrArg (SV.int .i64) (Int.natCast_succ _).symm | exact congrArg (SV.int .u64) (Int.natCast_succ _).symm | refine And.intro ?_ ?_)), rfl⟩
            · intro hx
              exfalso
              revert hx
              simp [ei, ek, hg2]
          | false =>
            (repeat' (first | exact trivial | exact fun _ => rfl | exact rfl | refine And.intro ?_ ?_))
            all_goals first | (first | omega | exact u0 (by omega) | exact u1 (by omega) | exact u1 ⟨by omega, by omega⟩ | exact un (by omega) | exact fun hh => hh | exact fun hh => absurd hh (by decide) | exact fun hh => congrArg not hh | exact fun hh => Bool.noConfusion (show true = false from hh) | exact fun hh => Bool.noConfusion (show false = true from hh)) | exact fun _ => hg | exact fun _ _ => hg | skip
            · intro hx
              exfalso
              revert hx
              simp [ei, ek, hg2]
            · intro _
              have nb : ¬ twoBad h s pl i k := fun h2 => by
                have h3 := h2.2
                rw [hb] at h3
                cases h3
              (repeat' (first | exact trivial | exact fun _ => rfl | exact rfl | refine And.intro ?_ ?_))
              all_goals first | (first | omega | exact u0 (by omega) | exact u1 (by omega) | exact u1 ⟨by omega, by omega⟩ | exact un (by omega) | exact fun hh => hh | exact fun hh => absurd hh (by decide) | exact fun hh => congrArg not hh | exact fun hh => Bool.noConfusion (show true = false from hh) | exact fun hh => Bool.noConfusion (show false = true from hh)) | skip
              refine ⟨k + 1, ⟨⟨by omega, hlk'⟩, next nb⟩, by omega, ?_⟩
              exact ent_tau [0, 1, 2, 3, 4, 5] ⟨by (repeat' (first | exact trivial | exact rfl | exact fun _ _ => rfl | exact Or.inl rfl | refine And.intro ?_ ?_)), by (repeat' (first | exact trivial | exact rfl | exact congrArg (SV.int .i64) (Int.natCast_succ _).symm | exact congrArg (SV.int .u64) (Int.natCast_succ _).symm | refine And.intro ?_ ?_)), rfl⟩
        · have hg2 : ¬ pl.p i = pl.p k := by simpa [gB, wB, ei, ek] using hg
          (repeat' (first | exact trivial | exact fun _ => rfl | exact rfl | refine And.intro ?_ ?_))
          all_goals first | (first | omega | exact u0 (by omega) | exact u1 (by omega) | exact u1 ⟨by omega, by omega⟩ | exact un (by omega) | exact fun hh => hh | exact fun hh => absurd hh (by decide) | exact fun hh => congrArg not hh | exact fun hh => Bool.noConfusion (show true = false from hh) | exact fun hh => Bool.noConfusion (show false = true from hh)) | exact fun hh => absurd (hg.symm.trans hh) (by decide) | exact fun hh => absurd (hh.symm.trans hg) (by decide) | skip
          all_goals intro hx
          all_goals first | (exfalso; revert hx; simp [ei, ek, hg2]; done) | skip
          (repeat' (first | exact trivial | exact fun _ => rfl | exact rfl | refine And.intro ?_ ?_))
          all_goals first | (first | omega | exact u0 (by omega) | exact u1 (by omega) | exact u1 ⟨by omega, by omega⟩ | exact un (by omega) | exact fun hh => hh | exact fun hh => absurd hh (by decide) | exact fun hh => congrArg not hh | exact fun hh => Bool.noConfusion (show true = false from hh) | exact fun hh => Bool.noConfusion (show false = true from hh)) | skip
          refine ⟨k + 1, ⟨⟨by omega, hlk'⟩, next fun hb => hg2 hb.1⟩, by omega, ?_⟩
          exact ent_tau [0, 1, 2, 3, 4, 5] ⟨by (repeat' (first | exact trivial | exact rfl | exact fun _ _ => rfl | exact Or.inl rfl | refine And.intro ?_ ?_)), by (repeat' (first | exact trivial | exact rfl | exact congrArg (SV.int .i64) (Int.natCast_succ _).symm | exact congrArg (SV.int .u64) (Int.natCast_succ _).symm | refine And.intro ?_ ?_)), rfl⟩
      · have e : k = h.n := by
          have := of_decide_eq_false hlk
          omega
        subst e
        (repeat' (first | exact trivial | exact fun _ => rfl | exact rfl | refine And.intro ?_ ?_))
        all_goals first | (first | omega | exact u0 (by omega) | exact u1 (by omega) | exact u1 ⟨by omega, by omega⟩ | exact un (by omega) | exact fun hh => hh | exact fun hh => absurd hh (by decide) | exact fun hh => congrArg not hh | exact fun hh => Bool.noConfusion (show true = false from hh) | exact fun hh => Bool.noConfusion (show false = true from hh)) | skip
        refine ⟨i + 1, ⟨hlt', fun i' k' h1 h2 h3 => ?_⟩, by omega, ?_⟩
        · by_cases c : i' = i
          · rw [c]
            exact hal2 k' (by omega) h3
          · exact hall i' k' (by omega) h2 h3
        · exact ent_tau [0, 1, 2, 3, 4, 5] ⟨by (repeat' (first | exact trivial | exact rfl | exact fun _ _ => rfl | exact Or.inl rfl | refine And.intro ?_ ?_)), by (repeat' (first | exact trivial | exact rfl | exact congrArg (SV.int .i64) (Int.natCast_succ _).symm | exact congrArg (SV.int .u64) (Int.natCast_succ _).symm | refine And.intro ?_ ?_)), rfl⟩
    · have e : i = h.n := by
        have := of_decide_eq_false hlt
        omega
      subst e
      have er : HD.chk h s pl = (0, 0, 4) := chk_is (.inr (.inr ⟨hv, hc, .inr ⟨fun i k h1 h2 => hall i k (by omega) h1 h2, rfl⟩⟩))
      rw [hr] at er
      subst er
      (repeat' (first | exact trivial | exact fun _ => rfl | exact rfl | refine And.intro ?_ ?_))
      all_goals first | (first | omega | exact u0 (by omega) | exact u1 (by omega) | exact u1 ⟨by omega, by omega⟩ | exact un (by omega) | exact fun hh => hh | exact fun hh => absurd hh (by decide) | exact fun hh => congrArg not hh | exact fun hh => Bool.noConfusion (show true = false from hh) | exact fun hh => Bool.noConfusion (show false = true from hh)) | skip
      intro _
      (repeat' (first | exact trivial | exact fun _ => rfl | exact rfl | refine And.intro ?_ ?_))
      all_goals first | (first | omega | exact u0 (by omega) | exact u1 (by omega) | exact u1 ⟨by omega, by omega⟩ | exact un (by omega) | exact fun hh => hh | exact fun hh => absurd hh (by decide) | exact fun hh => congrArg not hh | exact fun hh => Bool.noConfusion (show true = false from hh) | exact fun hh => Bool.noConfusion (show false = true from hh)) | skip
      refine ⟨_, _, ⟨rfl, rfl⟩, ?_⟩
      exact ent_tau [0, 1] ⟨by (repeat' (first | exact trivial | exact rfl | exact fun _ _ => rfl | exact Or.inl rfl | refine And.intro ?_ ?_)), by (repeat' (first | exact trivial | exact rfl | exact congrArg (SV.int .i64) (Int.natCast_succ _).symm | exact congrArg (SV.int .u64) (Int.natCast_succ _).symm | refine And.intro ?_ ?_)), rfl⟩
  · refine ⟨rfl, ?_⟩
    have er : HD.chk h s pl = (0, 0, 1) := chk_is (.inl ⟨hv, rfl⟩)
    rw [hr] at er
    subst er
    (repeat' (first | exact trivial | exact fun _ => rfl | exact rfl | refine And.intro ?_ ?_))
    all_goals first | (first | omega | exact u0 (by omega) | exact u1 (by omega) | exact u1 ⟨by omega, by omega⟩ | exact un (by omega) | exact fun hh => hh | exact fun hh => absurd hh (by decide) | exact fun hh => congrArg not hh | exact fun hh => Bool.noConfusion (show true = false from hh) | exact fun hh => Bool.noConfusion (show false = true from hh)) | skip
    intro _
    (repeat' (first | exact trivial | exact fun _ => rfl | exact rfl | refine And.intro ?_ ?_))
    all_goals first | (first | omega | exact u0 (by omega) | exact u1 (by omega) | exact u1 ⟨by omega, by omega⟩ | exact un (by omega) | exact fun hh => hh | exact fun hh => absurd hh (by decide) | exact fun hh => congrArg not hh | exact fun hh => Bool.noConfusion (show true = false from hh) | exact fun hh => Bool.noConfusion (show false = true from hh)) | skip
    intro _
    (repeat' (first | exact trivial | exact fun _ => rfl | exact rfl | refine And.intro ?_ ?_))
    all_goals first | (first | omega | exact u0 (by omega) | exact u1 (by omega) | exact u1 ⟨by omega, by omega⟩ | exact un (by omega) | exact fun hh => hh | exact fun hh => absurd hh (by decide) | exact fun hh => congrArg not hh | exact fun hh => Bool.noConfusion (show true = false from hh) | exact fun hh => Bool.noConfusion (show false = true from hh)) | skip
    refine ⟨_, _, ⟨rfl, rfl⟩, ?_⟩
    exact ent_tau [0, 1] ⟨by (repeat' (first | exact trivial | exact rfl | exact fun _ _ => rfl | exact Or.inl rfl | refine And.intro ?_ ?_)), by (repeat' (first | exact trivial | exact rfl | exact congrArg (SV.int .i64) (Int.natCast_succ _).symm | exact congrArg (SV.int .u64) (Int.natCast_succ _).symm | refine And.intro ?_ ?_)), rfl⟩
  · refine ⟨rfl, ?_⟩
    rw [hc1] at hc
    have er : HD.chk h s pl = (0, 0, 2) := chk_is (.inr (.inl ⟨hv, hc, rfl⟩))
    rw [hr] at er
    subst er
    (repeat' (first | exact trivial | exact fun _ => rfl | exact rfl | refine And.intro ?_ ?_))
    all_goals first | (first | omega | exact u0 (by omega) | exact u1 (by omega) | exact u1 ⟨by omega, by omega⟩ | exact un (by omega) | exact fun hh => hh | exact fun hh => absurd hh (by decide) | exact fun hh => congrArg not hh | exact fun hh => Bool.noConfusion (show true = false from hh) | exact fun hh => Bool.noConfusion (show false = true from hh)) | skip
    intro _
    (repeat' (first | exact trivial | exact fun _ => rfl | exact rfl | refine And.intro ?_ ?_))
    all_goals first | (first | omega | exact u0 (by omega) | exact u1 (by omega) | exact u1 ⟨by omega, by omega⟩ | exact un (by omega) | exact fun hh => hh | exact fun hh => absurd hh (by decide) | exact fun hh => congrArg not hh | exact fun hh => Bool.noConfusion (show true = false from hh) | exact fun hh => Bool.noConfusion (show false = true from hh)) | skip
    intro _
    (repeat' (first | exact trivial | exact fun _ => rfl | exact rfl | refine And.intro ?_ ?_))
    all_goals first | (first | omega | exact u0 (by omega) | exact u1 (by omega) | exact u1 ⟨by omega, by omega⟩ | exact un (by omega) | exact fun hh => hh | exact fun hh => absurd hh (by decide) | exact fun hh => congrArg not hh | exact fun hh => Bool.noConfusion (show true = false from hh) | exact fun hh => Bool.noConfusion (show false = true from hh)) | skip
    refine ⟨_, _, ⟨rfl, rfl⟩, ?_⟩
    exact ent_tau [0, 1] ⟨by (repeat' (first | exact trivial | exact rfl | exact fun _ _ => rfl | exact Or.inl rfl | refine And.intro ?_ ?_)), by (repeat' (first | exact trivial | exact rfl | exact congrArg (SV.int .i64) (Int.natCast_succ _).symm | exact congrArg (SV.int .u64) (Int.natCast_succ _).symm | refine And.intro ?_ ?_)), rfl⟩
end Go.Proofs.Ytgofhjihkinknaa
