/-
  Parts: Pa, Pb, Pc.
-/
import Derived.Test.YtgofhjihkinknaaN23
import Derived.Test.YtgofhjihkinknaaN10
set_option linter.unusedVariables false
/-
  Contracts: Check.
-/
namespace Go.Proofs.Ytgofhjihkinknaa
open Go Go.Sy Kuhn
set_option linter.unusedSimpArgs false
set_option maxRecDepth 100000
set_option maxHeartbeats 4000000
attribute [local irreducible] CallP CodeP Ent YieldP
attribute [local irreducible] HD.ch maskO

/-- Two moves of one horse of which none can follow the other one. -/
def twoBad (h : HD) (s : Bool) (pl : PD) (i k : Nat) : Prop := pl.p i = pl.p k ∧ h.apart s i k = true
/-- What Check tells. -/
def Chk (h : HD) (s : Bool) (pl : PD) (r : Int × Int × Int) : Prop :=
  (¬ h.Valid ∧ r = (0, 0, 1)) ∨ (h.Valid ∧ pok h pl = false ∧ r = (0, 0, 2)) ∨
  (h.Valid ∧ pok h pl = true ∧ ((∃ i k : Nat, (i < k ∧ k < h.n ∧ twoBad h s pl i k) ∧ (∀ i' k', i' < k' → k' < h.n → twoBad h s pl i' k' → i < i' ∨ i = i' ∧ k ≤ k') ∧ r = ((i : Int), (k : Int), 0)) ∨
    ((∀ i k, i < k → k < h.n → ¬ twoBad h s pl i k) ∧ r = (0, 0, 4))))
theorem Chk.one {h : HD} {s : Bool} {pl : PD} {r r' : Int × Int × Int} (H : Chk h s pl r) (H' : Chk h s pl r') : r = r' := by
  rcases H with ⟨a, rfl⟩ | ⟨a, b, rfl⟩ | ⟨a, b, c⟩ <;> rcases H' with ⟨a', rfl⟩ | ⟨a', b', rfl⟩ | ⟨a', b', c'⟩
  · rfl
  · exact absurd a' a
  · exact absurd a' a
  · exact absurd a a'
  · rfl
  · rw [b] at b'
    cases b'
  · exact absurd a a'
  · rw [b] at b'
    cases b'
  · rcases c with ⟨i, k, ⟨x1, x2, x3⟩, x4, rfl⟩ | ⟨x, rfl⟩ <;> rcases c' with ⟨i', k', ⟨y1, y2, y3⟩, y4, rfl⟩ | ⟨y, rfl⟩
    · have e1 := x4 i' k' y1 y2 y3
      have e2 := y4 i k x1 x2 x3
      have : i = i' ∧ k = k' := by omega
      rw [this.1, this.2]
    · exact absurd x3 (y i k x1 x2)
    · exact absurd y3 (x i' k' y1 y2)
    · rfl
open Classical in
noncomputable def HD.chk (h : HD) (s : Bool) (pl : PD) : Int × Int × Int := if H : ∃ r, Chk h s pl r then H.choose else (0, 0, 0)
theorem chk_is {h : HD} {s : Bool} {pl : PD} {r : Int × Int × Int} (H : Chk h s pl r) : HD.chk h s pl = r := by
  unfold HD.chk
  have hex : ∃ r, Chk h s pl r := ⟨r, H⟩
  rw [dif_pos hex]
  exact hex.choose_spec.one H
theorem t18 (h : HD) (pl : PD) (hn : pl.n ≤ 1000000) (s : Bool) : CallP Try.prog 18 [HD.A h, .osl pl.b 1 1 pl.n pl.cap, .bool s] (HD.H h ++ [some (.roa 1 pl.n (PD.F pl))])
    (Ret (.tup [.int .i64 (HD.chk h s pl).1, .int .i64 (HD.chk h s pl).2.1, .int .i64 (HD.chk h s pl).2.2]) (HD.H h ++ [some (.roa 1 pl.n (PD.F pl))])) := by
  obtain ⟨c, hc⟩ : ∃ c, pok h pl = c := ⟨_, rfl⟩
  have c47 := t47_3 h pl 85 (.inl rfl) c fun hv => by
    rw [← hc]
    exact t85 h pl hn
  obtain ⟨r, hr⟩ : ∃ r, HD.chk h s pl = r := ⟨_, rfl⟩
  rw [hr]
  refine callDR (E := E) E_ok Try.func18 rfl (g := 46) (k1 := 5) (k2 := 2) Try.func46 isrec46 rfl ?_
  (repeat' (first | exact trivial | exact fun _ => rfl | exact rfl | refine And.intro ?_ ?_))
  refine drawQ E_ok [2] pl18_2 (by kernel_rfl) ?_
  refine And.intro (And.intro ?_ ?_) trivial
  · (repeat' (first | exact trivial | exact fun _ => rfl | exact rfl | refine And.intro ?_ ?_))
  refine (t55 pl).use [1] ?_ (by (repeat' (first | exact trivial | exact rfl | exact fun _ _ => rfl | exact fun _ _ _ _ => rfl | exact Or.inl rfl | exact Or.inr rfl | refine And.intro ?_ ?_))) rfl
  refine And.intro (And.intro ?_ ?_) trivial
  · (repeat' (first | exact trivial | exact fun _ => rfl | exact rfl | refine And.intro ?_ ?_))
  refine CallP.frameH c47 [0, 1, 4, 5] (by (repeat' (first | exact trivial | exact rfl | exact fun _ _ => rfl | exact fun _ _ _ _ => rfl | exact Or.inl rfl | exact Or.inr rfl | refine And.intro ?_ ?_))) rfl ?_
  rintro ce h' (⟨hv, hc1, rfl, rfl⟩ | ⟨hv, rfl, rfl⟩ | ⟨hv, hc1, rfl, rfl⟩)
  · refine ⟨rfl, ?_⟩
    rw [hc1] at hc
    have hn7 := hv.2.1
    have hpn : pl.n = h.n := by
      unfold pok at hc
      simp only [Bool.and_eq_true, decide_eq_true_eq] at hc
      exact hc.1
    have bt : ∀ i k, i < h.n → k < h.n → (h.ch s i).testBit k = h.can s i k := fun i k hi hk => by
      rw [HD.ch_bit, decide_eq_true hi, decide_eq_true hk]
      rfl
    have c57 : ∀ i k : Nat, i < h.n → k < h.n → CallP Try.prog 57 [.agg (chI fun j => (h.ch s j : Nat)), .int .i64 i, .int .i64 k] [] (Ret (.bool (h.apart s i k)) []) := fun i k hi hk => by
      have := t57 (h.ch s) (fun j _ => HD.ch_lt hn7 s j) i k (by omega) (by omega)
      rw [bt i k hi hk, bt k i hk hi] at this
      exact this
    refine And.intro (And.intro ?_ ?_) trivial
    · (repeat' (first | exact trivial | exact fun _ => rfl | exact rfl | refine And.intro ?_ ?_))
    refine (t56 s).use [] ?_ trivial rfl
    refine And.intro (And.intro ?_ ?_) trivial
    · (repeat' (first | exact trivial | exact fun _ => rfl | exact rfl | refine And.intro ?_ ?_))
    refine (t50 h hv s).use [0] ?_ (by (repeat' (first | exact trivial | exact rfl | exact fun _ _ => rfl | exact fun _ _ _ _ => rfl | exact Or.inl rfl | exact Or.inr rfl | refine And.intro ?_ ?_))) rfl
    (repeat' (first | exact trivial | exact fun _ => rfl | exact rfl | refine And.intro ?_ ?_))
    all_goals first | (first | omega | exact u0 (by omega) | exact u1 (by omega) | exact u1 ⟨by omega, by omega⟩ | exact un (by omega) | exact fun hh => hh | exact fun hh => absurd hh (by decide) | exact fun hh => congrArg not hh | exact fun hh => Bool.noConfusion (show true = false from hh) | exact fun hh => Bool.noConfusion (show false = true from hh)) | skip
    refine loopP E_ok [1, 8, 9, 21] (fun i : Nat => [(22, .int .i64 i)]) (fun _ H => H) (fun i => i ≤ h.n ∧ ∀ i' k', i' < i → i' < k' → k' < h.n → ¬ twoBad h s pl i' k') (fun i => h.n - i) 0 ⟨Nat.zero_le _, fun i' k' hh => by omega⟩ ?_ ?_
    · exact ent_tau [0, 1, 2, 3, 4, 5] ⟨by (repeat' (first | exact trivial | exact rfl | exact fun _ _ => rfl | exact Or.inl rfl | refine And.intro ?_ ?_)), by (repeat' (first | exact trivial | exact rfl | exact congrArg (SV.int .i64) (Int.natCast_succ _).symm | exact congrArg (SV.int .u64) (Int.natCast_succ _).symm | refine And.intro ?_ ?_)), rfl⟩
    rintro i ⟨hi, hall⟩
    have ei := z1 i
    refine And.intro ?_ (And.intro (fun hlt => ?_) (fun hlt => ?_))
    · (repeat' (first | exact trivial | exact fun _ => rfl | exact rfl | refine And.intro ?_ ?_))
    · have hlt' : i < h.n := by
        have := of_decide_eq_true hlt
        omega
      (repeat' (first | exact trivial | exact fun _ => rfl | exact rfl | refine And.intro ?_ ?_))
      all_goals first | (first | omega | exact u0 (by omega) | exact u1 (by omega) | exact u1 ⟨by omega, by omega⟩ | exact un (by omega) | exact fun hh => hh | exact fun hh => absurd hh (by decide) | exact fun hh => congrArg not hh | exact fun hh => Bool.noConfusion (show true = false from hh) | exact fun hh => Bool.noConfusion (show false = true from hh)) | skip
      refine loopP E_ok [1, 8, 9, 10, 21, 22] (fun k : Nat => [(11, .int .i64 k)]) (fun _ H => H) (fun k => (i < k ∧ k ≤ h.n) ∧ ∀ k', i < k' → k' < k → ¬ twoBad h s pl i k') (fun k => h.n - k) (i + 1) ⟨⟨by omega, by omega⟩, fun k' h1 h2 => by omega⟩ ?_ ?_
      · exact ent_tau [0, 1, 2, 3, 4, 5] ⟨by (repeat' (first | exact trivial | exact rfl | exact fun _ _ => rfl | exact Or.inl rfl | refine And.intro ?_ ?_)), by (repeat' (first | exact trivial | exact rfl | exact congrArg (SV.int .i64) (Int.natCast_succ _).symm | exact congrArg (SV.int .u64) (Int.natCast_succ _).symm | refine And.intro ?_ ?_)), rfl⟩
      rintro k ⟨⟨hik, hk⟩, hal2⟩
      have ek := z1 k
      refine And.intro ?_ (And.intro (fun hlk => ?_) (fun hlk => ?_))
      · (repeat' (first | exact trivial | exact fun _ => rfl | exact rfl | refine And.intro ?_ ?_))
      · have hlk' : k < h.n := by
          have := of_decide_eq_true hlk
          omega
        have next : ¬ twoBad h s pl i k → ∀ k', i < k' → k' < k + 1 → ¬ twoBad h s pl i k' := fun hb k' h1 h2 => by
          by_cases c : k' = k
          · rw [c]
            exact hb
          · exact hal2 k' h1 (by omega)
        refine And.intro trivial ?_
        refine drawP E_ok [] pl18_9 (by kernel_rfl) ?_
        refine And.intro (And.intro ?_ (And.intro (fun hg => ?_) (fun hg => ?_))) trivial
        · (repeat' (first | exact trivial | exact fun _ => rfl | exact rfl | refine And.intro ?_ ?_))
          all_goals (first | omega | exact u0 (by omega) | exact u1 (by omega) | exact u1 ⟨by omega, by omega⟩ | exact un (by omega) | exact fun hh => hh | exact fun hh => absurd hh (by decide) | exact fun hh => congrArg not hh | exact fun hh => Bool.noConfusion (show true = false from hh) | exact fun hh => Bool.noConfusion (show false = true from hh))
        · have hg2 : pl.p i = pl.p k := by simpa [gB, wB, ei, ek] using hg
          refine (c57 i k hlt' hlk').use [] ?_ trivial rfl
          obtain ⟨b, hb⟩ : ∃ b, h.apart s i k = b := ⟨_, rfl⟩
          rw [hb]
          cases b with
          | true =>
            (repeat' (first | exact trivial | exact fun _ => rfl | exact rfl | refine And.intro ?_ ?_))
            all_goals first | (first | omega | exact u0 (by omega) | exact u1 (by omega) | exact u1 ⟨by omega, by omega⟩ | exact un (by omega) | exact fun hh => hh | exact fun hh => absurd hh (by decide) | exact fun hh => congrArg not hh | exact fun hh => Bool.noConfusion (show true = false from hh) | exact fun hh => Bool.noConfusion (show false = true from hh)) | exact fun _ => hg | exact fun _ _ => hg | skip
            · intro _
              have er : HD.chk h s pl = ((i : Int), (k : Int), 0) := chk_is (.inr (.inr ⟨hv, hc, .inl ⟨i, k, ⟨hik, hlk', hg2, hb⟩, fun i' k' h1 h2 h3 => by
                rcases Nat.lt_trichotomy i' i with c | c | c
                · exact absurd h3 (hall i' k' c h1 h2)
                · right
                  rw [c] at h3 h1
                  by_cases c2 : k' < k
                  · exact absurd h3 (hal2 k' h1 c2)
                  · omega
                · exact .inl c, rfl⟩⟩))
              rw [hr] at er
              subst er
              (repeat' (first | exact trivial | exact fun _ => rfl | exact rfl | refine And.intro ?_ ?_))
              all_goals first | (first | omega | exact u0 (by omega) | exact u1 (by omega) | exact u1 ⟨by omega, by omega⟩ | exact un (by omega) | exact fun hh => hh | exact fun hh => absurd hh (by decide) | exact fun hh => congrArg not hh | exact fun hh => Bool.noConfusion (show true = false from hh) | exact fun hh => Bool.noConfusion (show false = true from hh)) | skip
              intro _
              (repeat' (first | exact trivial | exact fun _ => rfl | exact rfl | refine And.intro ?_ ?_))
              all_goals first | (first | omega | exact u0 (by omega) | exact u1 (by omega) | exact u1 ⟨by omega, by omega⟩ | exact un (by omega) | exact fun hh => hh | exact fun hh => absurd hh (by decide) | exact fun hh => congrArg not hh | exact fun hh => Bool.noConfusion (show true = false from hh) | exact fun hh => Bool.noConfusion (show false = true from hh)) | skip
              refine ⟨_, _, ⟨rfl, rfl⟩, ?_⟩
              exact ent_tau [0, 1] ⟨by (repeat' (first | exact trivial | exact rfl | exact fun _ _ => rfl | exact Or.inl rfl | refine And.intro ?_ ?_)), by (repeat' (first | exact trivial | exact rfl | exact congrArg (SV.int .i64) (Int.natCast_succ _).symm | exact congrArg (SV.int .u64) (Int.natCast_succ _).symm | refine And.intro ?_ ?_)), rfl⟩
            · intro hx
              exfalso
              revert hx
              simp [ei, ek, hg2]
          | false =>
            (repeat' (first | exact trivial | exact fun _ => rfl | exact rfl | refine And.intro ?_ ?_))
            all_goals first | (first | omega | exact u0 (by omega) | exact u1 (by omega) | exact u1 ⟨by omega, by omega⟩ | exact un (by omega) | exact fun hh => hh | exact fun hh => absurd hh (by decide) | exact fun hh => congrArg not hh | exact fun hh => Bool.noConfusion (show true = false from hh) | exact fun hh => Bool.noConfusion (show false = true from hh)) | exact fun _ => hg | exact fun _ _ => hg | skip
            · intro hx
              exfalso
              revert hx
              simp [ei, ek, hg2]
            · intro _
              have nb : ¬ twoBad h s pl i k := fun h2 => by
                have h3 := h2.2
                rw [hb] at h3
                cases h3
              (repeat' (first | exact trivial | exact fun _ => rfl | exact rfl | refine And.intro ?_ ?_))
              all_goals first | (first | omega | exact u0 (by omega) | exact u1 (by omega) | exact u1 ⟨by omega, by omega⟩ | exact un (by omega) | exact fun hh => hh | exact fun hh => absurd hh (by decide) | exact fun hh => congrArg not hh | exact fun hh => Bool.noConfusion (show true = false from hh) | exact fun hh => Bool.noConfusion (show false = true from hh)) | skip
              refine ⟨k + 1, ⟨⟨by omega, hlk'⟩, next nb⟩, by omega, ?_⟩
              exact ent_tau [0, 1, 2, 3, 4, 5] ⟨by (repeat' (first | exact trivial | exact rfl | exact fun _ _ => rfl | exact Or.inl rfl | refine And.intro ?_ ?_)), by (repeat' (first | exact trivial | exact rfl | exact congrArg (SV.int .i64) (Int.natCast_succ _).symm | exact congrArg (SV.int .u64) (Int.natCast_succ _).symm | refine And.intro ?_ ?_)), rfl⟩
        · have hg2 : ¬ pl.p i = pl.p k := by simpa [gB, wB, ei, ek] using hg
          (repeat' (first | exact trivial | exact fun _ => rfl | exact rfl | refine And.intro ?_ ?_))
          all_goals first | (first | omega | exact u0 (by omega) | exact u1 (by omega) | exact u1 ⟨by omega, by omega⟩ | exact un (by omega) | exact fun hh => hh | exact fun hh => absurd hh (by decide) | exact fun hh => congrArg not hh | exact fun hh => Bool.noConfusion (show true = false from hh) | exact fun hh => Bool.noConfusion (show false = true from hh)) | exact fun hh => absurd (hg.symm.trans hh) (by decide) | exact fun hh => absurd (hh.symm.trans hg) (by decide) | skip
          all_goals intro hx
          all_goals first | (exfalso; revert hx; simp [ei, ek, hg2]; done) | skip
          (repeat' (first | exact trivial | exact fun _ => rfl | exact rfl | refine And.intro ?_ ?_))
          all_goals first | (first | omega | exact u0 (by omega) | exact u1 (by omega) | exact u1 ⟨by omega, by omega⟩ | exact un (by omega) | exact fun hh => hh | exact fun hh => absurd hh (by decide) | exact fun hh => congrArg not hh | exact fun hh => Bool.noConfusion (show true = false from hh) | exact fun hh => Bool.noConfusion (show false = true from hh)) | skip
          refine ⟨k + 1, ⟨⟨by omega, hlk'⟩, next fun hb => hg2 hb.1⟩, by omega, ?_⟩
          exact ent_tau [0, 1, 2, 3, 4, 5] ⟨by (repeat' (first | exact trivial | exact rfl | exact fun _ _ => rfl | exact Or.inl rfl | refine And.intro ?_ ?_)), by (repeat' (first | exact trivial | exact rfl | exact congrArg (SV.int .i64) (Int.natCast_succ _).symm | exact congrArg (SV.int .u64) (Int.natCast_succ _).symm | refine And.intro ?_ ?_)), rfl⟩
      · have e : k = h.n := by
          have := of_decide_eq_false hlk
          omega
        subst e
        (repeat' (first | exact trivial | exact fun _ => rfl | exact rfl | refine And.intro ?_ ?_))
        all_goals first | (first | omega | exact u0 (by omega) | exact u1 (by omega) | exact u1 ⟨by omega, by omega⟩ | exact un (by omega) | exact fun hh => hh | exact fun hh => absurd hh (by decide) | exact fun hh => congrArg not hh | exact fun hh => Bool.noConfusion (show true = false from hh) | exact fun hh => Bool.noConfusion (show false = true from hh)) | skip
        refine ⟨i + 1, ⟨hlt', fun i' k' h1 h2 h3 => ?_⟩, by omega, ?_⟩
        · by_cases c : i' = i
          · rw [c]
            exact hal2 k' (by omega) h3
          · exact hall i' k' (by omega) h2 h3
        · exact ent_tau [0, 1, 2, 3, 4, 5] ⟨by (repeat' (first | exact trivial | exact rfl | exact fun _ _ => rfl | exact Or.inl rfl | refine And.intro ?_ ?_)), by (repeat' (first | exact trivial | exact rfl | exact congrArg (SV.int .i64) (Int.natCast_succ _).symm | exact congrArg (SV.int .u64) (Int.natCast_succ _).symm | refine And.intro ?_ ?_)), rfl⟩
    · have e : i = h.n := by
        have := of_decide_eq_false hlt
        omega
      subst e
      have er : HD.chk h s pl = (0, 0, 4) := chk_is (.inr (.inr ⟨hv, hc, .inr ⟨fun i k h1 h2 => hall i k (by omega) h1 h2, rfl⟩⟩))
      rw [hr] at er
      subst er
      (repeat' (first | exact trivial | exact fun _ => rfl | exact rfl | refine And.intro ?_ ?_))
      all_goals first | (first | omega | exact u0 (by omega) | exact u1 (by omega) | exact u1 ⟨by omega, by omega⟩ | exact un (by omega) | exact fun hh => hh | exact fun hh => absurd hh (by decide) | exact fun hh => congrArg not hh | exact fun hh => Bool.noConfusion (show true = false from hh) | exact fun hh => Bool.noConfusion (show false = true from hh)) | skip
      intro _
      (repeat' (first | exact trivial | exact fun _ => rfl | exact rfl | refine And.intro ?_ ?_))
      all_goals first | (first | omega | exact u0 (by omega) | exact u1 (by omega) | exact u1 ⟨by omega, by omega⟩ | exact un (by omega) | exact fun hh => hh | exact fun hh => absurd hh (by decide) | exact fun hh => congrArg not hh | exact fun hh => Bool.noConfusion (show true = false from hh) | exact fun hh => Bool.noConfusion (show false = true from hh)) | skip
      refine ⟨_, _, ⟨rfl, rfl⟩, ?_⟩
      exact ent_tau [0, 1] ⟨by (repeat' (first | exact trivial | exact rfl | exact fun _ _ => rfl | exact Or.inl rfl | refine And.intro ?_ ?_)), by (repeat' (first | exact trivial | exact rfl | exact congrArg (SV.int .i64) (Int.natCast_succ _).symm | exact congrArg (SV.int .u64) (Int.natCast_succ _).symm | refine And.intro ?_ ?_)), rfl⟩
  · refine ⟨rfl, ?_⟩
    have er : HD.chk h s pl = (0, 0, 1) := chk_is (.inl ⟨hv, rfl⟩)
    rw [hr] at er
    subst er
    (repeat' (first | exact trivial | exact fun _ => rfl | exact rfl | refine And.intro ?_ ?_))
    all_goals first | (first | omega | exact u0 (by omega) | exact u1 (by omega) | exact u1 ⟨by omega, by omega⟩ | exact un (by omega) | exact fun hh => hh | exact fun hh => absurd hh (by decide) | exact fun hh => congrArg not hh | exact fun hh => Bool.noConfusion (show true = false from hh) | exact fun hh => Bool.noConfusion (show false = true from hh)) | skip
    intro _
    (repeat' (first | exact trivial | exact fun _ => rfl | exact rfl | refine And.intro ?_ ?_))
    all_goals first | (first | omega | exact u0 (by omega) | exact u1 (by omega) | exact u1 ⟨by omega, by omega⟩ | exact un (by omega) | exact fun hh => hh | exact fun hh => absurd hh (by decide) | exact fun hh => congrArg not hh | exact fun hh => Bool.noConfusion (show true = false from hh) | exact fun hh => Bool.noConfusion (show false = true from hh)) | skip
    intro _
    (repeat' (first | exact trivial | exact fun _ => rfl | exact rfl | refine And.intro ?_ ?_))
    all_goals first | (first | omega | exact u0 (by omega) | exact u1 (by omega) | exact u1 ⟨by omega, by omega⟩ | exact un (by omega) | exact fun hh => hh | exact fun hh => absurd hh (by decide) | exact fun hh => congrArg not hh | exact fun hh => Bool.noConfusion (show true = false from hh) | exact fun hh => Bool.noConfusion (show false = true from hh)) | skip
    refine ⟨_, _, ⟨rfl, rfl⟩, ?_⟩
    exact ent_tau [0, 1] ⟨by (repeat' (first | exact trivial | exact rfl | exact fun _ _ => rfl | exact Or.inl rfl | refine And.intro ?_ ?_)), by (repeat' (first | exact trivial | exact rfl | exact congrArg (SV.int .i64) (Int.natCast_succ _).symm | exact congrArg (SV.int .u64) (Int.natCast_succ _).symm | refine And.intro ?_ ?_)), rfl⟩
  · refine ⟨rfl, ?_⟩
    rw [hc1] at hc
    have er : HD.chk h s pl = (0, 0, 2) := chk_is (.inr (.inl ⟨hv, hc, rfl⟩))
    rw [hr] at er
    subst er
    (repeat' (first | exact trivial | exact fun _ => rfl | exact rfl | refine And.intro ?_ ?_))
    all_goals first | (first | omega | exact u0 (by omega) | exact u1 (by omega) | exact u1 ⟨by omega, by omega⟩ | exact un (by omega) | exact fun hh => hh | exact fun hh => absurd hh (by decide) | exact fun hh => congrArg not hh | exact fun hh => Bool.noConfusion (show true = false from hh) | exact fun hh => Bool.noConfusion (show false = true from hh)) | skip
    intro _
    (repeat' (first | exact trivial | exact fun _ => rfl | exact rfl | refine And.intro ?_ ?_))
    all_goals first | (first | omega | exact u0 (by omega) | exact u1 (by omega) | exact u1 ⟨by omega, by omega⟩ | exact un (by omega) | exact fun hh => hh | exact fun hh => absurd hh (by decide) | exact fun hh => congrArg not hh | exact fun hh => Bool.noConfusion (show true = false from hh) | exact fun hh => Bool.noConfusion (show false = true from hh)) | skip
    intro _
    (repeat' (first | exact trivial | exact fun _ => rfl | exact rfl | refine And.intro ?_ ?_))
    all_goals first | (first | omega | exact u0 (by omega) | exact u1 (by omega) | exact u1 ⟨by omega, by omega⟩ | exact un (by omega) | exact fun hh => hh | exact fun hh => absurd hh (by decide) | exact fun hh => congrArg not hh | exact fun hh => Bool.noConfusion (show true = false from hh) | exact fun hh => Bool.noConfusion (show false = true from hh)) | skip
    refine ⟨_, _, ⟨rfl, rfl⟩, ?_⟩
    exact ent_tau [0, 1] ⟨by (repeat' (first | exact trivial | exact rfl | exact fun _ _ => rfl | exact Or.inl rfl | refine And.intro ?_ ?_)), by (repeat' (first | exact trivial | exact rfl | exact congrArg (SV.int .i64) (Int.natCast_succ _).symm | exact congrArg (SV.int .u64) (Int.natCast_succ _).symm | refine And.intro ?_ ?_)), rfl⟩
end Go.Proofs.Ytgofhjihkinknaa
/-
  Contracts: the first plan is sought.
-/
namespace Go.Proofs.Ytgofhjihkinknaa
open Go Go.Sy Kuhn
set_option linter.unusedSimpArgs false
set_option maxRecDepth 100000
set_option maxHeartbeats 4000000
attribute [local irreducible] CallP CodeP Ent YieldP
attribute [local irreducible] HD.ch maskO

/-- Seven horses. -/
def liI (L : Nat → Int) : List SV := [.int .i64 (L 0), .int .i64 (L 1), .int .i64 (L 2), .int .i64 (L 3), .int .i64 (L 4), .int .i64 (L 5), .int .i64 (L 6)]
def upd (L : Nat → Int) (i : Nat) (x : Int) : Nat → Int := fun m => if m = i then x else L m
theorem ofP_upd (L : Nat → Int) (i : Nat) (x : Int) : HD.ofP (i + 1) (upd L i x) = HD.ofP i L ++ [x] := by
  unfold HD.ofP
  rw [List.range_succ, List.map_append]
  congr 1
  · refine List.map_congr_left fun k hk => ?_
    rw [List.mem_range] at hk
    unfold upd
    rw [if_neg (by omega)]
  · simp [upd]
theorem ofP_congr {L L' : Nat → Int} {i : Nat} (h : ∀ k, k < i → L k = L' k) : HD.ofP i L = HD.ofP i L' :=
  List.map_congr_left fun k hk => h k (List.mem_range.1 hk)
/-- What goes on from a plan of the first ones, by the next one's horse. -/
def nextW (h : HD) (s : Bool) (N r : Nat) (L : List Int) (x : Nat) : List (List Int) := match h.fits s L (x : Int) with
  | true => h.ways s HD.full N r (L ++ [(x : Int)])
  | false => []
theorem ways_next (h : HD) (s : Bool) (N r : Nat) (L : List Int) : h.ways s HD.full N (r + 1) L = (List.range N).flatMap (nextW h s N r L) := rfl
theorem flat_none {g : Nat → List (List Int)} {N : Nat} (h : ∀ y, y < N → g y = []) : (List.range N).flatMap g = [] := by
  rw [List.flatMap_eq_nil_iff]
  intro y hy
  exact h y (List.mem_range.1 hy)
theorem flat_head {g : Nat → List (List Int)} {A : List Int} {x : Nat} (hx : (g x).head? = some A) : ∀ {N : Nat}, x < N → (∀ y, y < x → g y = []) → ((List.range N).flatMap g).head? = some A
  | 0, h, _ => absurd h (Nat.not_lt_zero _)
  | N + 1, h, h0 => by
    rw [List.range_succ, List.flatMap_append]
    rcases Nat.lt_succ_iff_lt_or_eq.1 h with c | rfl
    · have ih := flat_head (g := g) (A := A) hx c h0
      rw [List.head?_append, ih]
      rfl
    · rw [flat_none h0, List.nil_append]
      simpa using hx
def H68 (h : HD) (s : Bool) (N : Nat) (L : Nat → Int) : SHeap := HD.H h ++ [some (.roc (bc h)), some (.roc [.int .i64 N]), some (.cells (liI L)), some (.roc (chI fun j => (h.ch s j : Nat))), some (.roc [.fn (.func 68) [] [.ptr 1 0, .ptr 2 0, .ptr 3 0, .ptr 4 0, .ptr 5 0]])]
/-- What comes of going on. -/
def K68 (h : HD) (s : Bool) (N i : Nat) (L : Nat → Int) : CE → SHeap → Prop := fun ce h' => ∃ b L', ce = .ret (.bool b) ∧ h' = H68 h s N L' ∧ (∀ k, k < i → L' k = L k) ∧
  match b with
  | true => ∃ A, (h.ways s HD.full N (h.n - i) (HD.ofP i L)).head? = some A ∧ ∀ k, k < h.n → L' k = A.getD k 0
  | false => h.ways s HD.full N (h.n - i) (HD.ofP i L) = []
theorem fits_of {h : HD} {s : Bool} {L : Nat → Int} {i x : Nat} (H : ∀ k, k < i → ¬ (L k = x ∧ h.apart s i k = true)) : h.fits s (HD.ofP i L) x = true := by
  rw [HD.fits_iff, HD.ofP_len]
  intro k hk e
  rw [HD.ofP_get hk] at e
  cases c : h.apart s i k with
  | false => rfl
  | true => exact absurd ⟨e, c⟩ (H k hk)
theorem fits_not {h : HD} {s : Bool} {L : Nat → Int} {i x k : Nat} (hk : k < i) (e : L k = x) (c : h.apart s i k = true) : h.fits s (HD.ofP i L) x = false := by
  cases hf : h.fits s (HD.ofP i L) x with
  | false => rfl
  | true =>
    have := HD.fits_iff.1 hf k (by rw [HD.ofP_len]; exact hk) (by rw [HD.ofP_get hk]; exact e)
    rw [HD.ofP_len, c] at this
    cases this
theorem t68 (h : HD) (hv : h.Valid) (s : Bool) (N : Nat) (hN : N ≤ 7) : ∀ (r i : Nat) (L : Nat → Int), i + r = h.n →
    CallP Try.prog 68 [.int .i64 i, .ptr 1 0, .ptr 2 0, .ptr 3 0, .ptr 4 0, .ptr 5 0] (H68 h s N L) (K68 h s N i L)
  | 0, i, L, hi => by
    have e : i = h.n := by omega
    subst e
    refine callK (E := E) E_ok Try.func68 rfl ?_
    (repeat' (first | exact trivial | exact fun _ => rfl | exact rfl | refine And.intro ?_ ?_))
    all_goals first | (first | omega | exact u0 (by omega) | exact u1 (by omega) | exact u1 ⟨by omega, by omega⟩ | exact un (by omega) | exact fun hh => hh | exact fun hh => absurd hh (by decide) | exact fun hh => congrArg not hh | exact fun hh => Bool.noConfusion (show true = false from hh) | exact fun hh => Bool.noConfusion (show false = true from hh)) | skip
    · intro _
      (repeat' (first | exact trivial | exact fun _ => rfl | exact rfl | refine And.intro ?_ ?_))
      refine ⟨_, _, ⟨true, L, rfl, rfl, fun _ _ => rfl, HD.ofP h.n L, ?_, fun k hk => (HD.ofP_get hk).symm⟩, ?_⟩
      · rw [Nat.sub_self]
        rfl
      · exact ent_tau [0, 1, 2, 3, 4, 5] ⟨by (repeat' (first | exact trivial | exact rfl | exact fun _ _ => rfl | exact Or.inl rfl | refine And.intro ?_ ?_)), by (repeat' (first | exact trivial | exact rfl | exact congrArg (SV.int .i64) (Int.natCast_succ _).symm | exact congrArg (SV.int .u64) (Int.natCast_succ _).symm | refine And.intro ?_ ?_)), rfl⟩
    · intro hx
      simp at hx
  | r + 1, i, L, hi => by
    have IH := t68 h hv s N hN r (i + 1)
    have hn7 := hv.2.1
    have hlt : i < h.n := by omega
    have er : h.n - i = r + 1 := by omega
    have er2 : h.n - (i + 1) = r := by omega
    have bt : ∀ i k, i < h.n → k < h.n → (h.ch s i).testBit k = h.can s i k := fun i k hi hk => by
      rw [HD.ch_bit, decide_eq_true hi, decide_eq_true hk]
      rfl
    have c57 : ∀ i k : Nat, i < h.n → k < h.n → CallP Try.prog 57 [.agg (chI fun j => (h.ch s j : Nat)), .int .i64 i, .int .i64 k] [] (Ret (.bool (h.apart s i k)) []) := fun i k hi hk => by
      have := t57 (h.ch s) (fun j _ => HD.ch_lt hn7 s j) i k (by omega) (by omega)
      rw [bt i k hi hk, bt k i hk hi] at this
      exact this
    refine callK (E := E) E_ok Try.func68 rfl ?_
    (repeat' (first | exact trivial | exact fun _ => rfl | exact rfl | refine And.intro ?_ ?_))
    all_goals first | (first | omega | exact u0 (by omega) | exact u1 (by omega) | exact u1 ⟨by omega, by omega⟩ | exact un (by omega) | exact fun hh => hh | exact fun hh => absurd hh (by decide) | exact fun hh => congrArg not hh | exact fun hh => Bool.noConfusion (show true = false from hh) | exact fun hh => Bool.noConfusion (show false = true from hh)) | skip
    · intro hx
      have := of_decide_eq_true hx
      omega
    · intro _
      (repeat' (first | exact trivial | exact fun _ => rfl | exact rfl | refine And.intro ?_ ?_))
      all_goals first | (first | omega | exact u0 (by omega) | exact u1 (by omega) | exact u1 ⟨by omega, by omega⟩ | exact un (by omega) | exact fun hh => hh | exact fun hh => absurd hh (by decide) | exact fun hh => congrArg not hh | exact fun hh => Bool.noConfusion (show true = false from hh) | exact fun hh => Bool.noConfusion (show false = true from hh)) | skip
      refine loopP E_ok [0, 1, 2, 3, 4, 5, 16] (fun g : Nat × (Nat → Int) => [(17, .int .i64 g.1)]) (fun g _ => H68 h s N g.2) (fun g => g.1 ≤ N ∧ (∀ k, k < i → g.2 k = L k) ∧ ∀ y, y < g.1 → nextW h s N r (HD.ofP i L) y = []) (fun g => N - g.1) (0, L) ⟨Nat.zero_le _, fun _ _ => rfl, fun y hy => by simp only at hy; omega⟩ ?_ ?_
      · exact ent_tau [0, 1, 2, 3, 4, 5] ⟨by (repeat' (first | exact trivial | exact rfl | exact fun _ _ => rfl | exact Or.inl rfl | refine And.intro ?_ ?_)), by (repeat' (first | exact trivial | exact rfl | exact congrArg (SV.int .i64) (Int.natCast_succ _).symm | exact congrArg (SV.int .u64) (Int.natCast_succ _).symm | refine And.intro ?_ ?_)), rfl⟩
      rintro ⟨x, L1⟩ ⟨hx, hag, hno⟩
      simp only at hx hag hno
      refine And.intro ?_ (And.intro (fun hlx => ?_) (fun hlx => ?_))
      · (repeat' (first | exact trivial | exact fun _ => rfl | exact rfl | refine And.intro ?_ ?_))
      · have hxN : x < N := by
          have := of_decide_eq_true hlx
          simp only at this
          omega
        have next : nextW h s N r (HD.ofP i L) x = [] → ∀ y, y < x + 1 → nextW h s N r (HD.ofP i L) y = [] := fun hb y hy => by
          by_cases c : y = x
          · rw [c]; exact hb
          · exact hno y (by omega)
        (repeat' (first | exact trivial | exact fun _ => rfl | exact rfl | refine And.intro ?_ ?_))
        all_goals first | (first | omega | exact u0 (by omega) | exact u1 (by omega) | exact u1 ⟨by omega, by omega⟩ | exact un (by omega) | exact fun hh => hh | exact fun hh => absurd hh (by decide) | exact fun hh => congrArg not hh | exact fun hh => Bool.noConfusion (show true = false from hh) | exact fun hh => Bool.noConfusion (show false = true from hh)) | skip
        refine loopP E_ok [0, 1, 2, 3, 4, 5, 8, 16, 17, 20] (fun k : Nat => [(21, .int .i64 k)]) (fun _ _ => H68 h s N L1) (fun k => k ≤ i ∧ ∀ k', k' < k → ¬ (L k' = x ∧ h.apart s i k' = true)) (fun k => i - k) 0 ⟨Nat.zero_le _, fun k' hk => by omega⟩ ?_ ?_
        · exact ent_tau [0, 1, 2, 3, 4, 5] ⟨by (repeat' (first | exact trivial | exact rfl | exact fun _ _ => rfl | exact Or.inl rfl | refine And.intro ?_ ?_)), by (repeat' (first | exact trivial | exact rfl | exact congrArg (SV.int .i64) (Int.natCast_succ _).symm | exact congrArg (SV.int .u64) (Int.natCast_succ _).symm | refine And.intro ?_ ?_)), rfl⟩
        rintro k ⟨hk, hnk⟩
        refine And.intro ?_ (And.intro (fun hlk => ?_) (fun hlk => ?_))
        · (repeat' (first | exact trivial | exact fun _ => rfl | exact rfl | refine And.intro ?_ ?_))
        · have hki : k < i := by
            have := of_decide_eq_true hlk
            omega
          have hge : [L1 0, L1 1, L1 2, L1 3, L1 4, L1 5, L1 6].getD ((k : Nat) : Int).toNat 0 = L k := by
            rw [Int.toNat_natCast, get7 L1 k (by omega), hag k hki]
          have nextk : ¬ (L k = x ∧ h.apart s i k = true) → ∀ k', k' < k + 1 → ¬ (L k' = x ∧ h.apart s i k' = true) := fun hb k' hk' => by
            by_cases c : k' = k
            · rw [c]; exact hb
            · exact hnk k' (by omega)
          (repeat' (first | exact trivial | exact fun _ => rfl | exact rfl | refine And.intro ?_ ?_))
          all_goals first | (first | omega | exact u0 (by omega) | exact u1 (by omega) | exact u1 ⟨by omega, by omega⟩ | exact un (by omega) | exact fun hh => hh | exact fun hh => absurd hh (by decide) | exact fun hh => congrArg not hh | exact fun hh => Bool.noConfusion (show true = false from hh) | exact fun hh => Bool.noConfusion (show false = true from hh)) | skip
          · intro hg
            have hg' : gB none (wB true (decide ([L1 0, L1 1, L1 2, L1 3, L1 4, L1 5, L1 6].getD ((k : Nat) : Int).toNat 0 = (x : Int)))) = true := hg
            rw [hge] at hg'
            have hg2 : L k = x := by simpa [gB, wB] using hg'
            have hge2 := hge.trans hg2
            refine (c57 i k hlt (by omega)).use [] ?_ trivial rfl
            obtain ⟨b, hb⟩ : ∃ b, h.apart s i k = b := ⟨_, rfl⟩
            rw [hb]
            cases b with
            | true =>
              (repeat' (first | exact trivial | exact fun _ => rfl | exact rfl | refine And.intro ?_ ?_))
              all_goals first | (first | omega | exact u0 (by omega) | exact u1 (by omega) | exact u1 ⟨by omega, by omega⟩ | exact un (by omega) | exact fun hh => hh | exact fun hh => absurd hh (by decide) | exact fun hh => congrArg not hh | exact fun hh => Bool.noConfusion (show true = false from hh) | exact fun hh => Bool.noConfusion (show false = true from hh)) | exact fun _ => hg | exact fun _ _ => hg | skip
              · intro _
                (repeat' (first | exact trivial | exact fun _ => rfl | exact rfl | refine And.intro ?_ ?_))
                all_goals first | (first | omega | exact u0 (by omega) | exact u1 (by omega) | exact u1 ⟨by omega, by omega⟩ | exact un (by omega) | exact fun hh => hh | exact fun hh => absurd hh (by decide) | exact fun hh => congrArg not hh | exact fun hh => Bool.noConfusion (show true = false from hh) | exact fun hh => Bool.noConfusion (show false = true from hh)) | skip
                refine ⟨(x + 1, L1), ⟨hxN, hag, next (by unfold nextW; rw [fits_not hki hg2 hb])⟩, by simp only; omega, ?_⟩
                exact ent_tau [0, 1, 2, 3, 4, 5] ⟨by (repeat' (first | exact trivial | exact rfl | exact fun _ _ => rfl | exact Or.inl rfl | refine And.intro ?_ ?_)), by (repeat' (first | exact trivial | exact rfl | exact congrArg (SV.int .i64) (Int.natCast_succ _).symm | exact congrArg (SV.int .u64) (Int.natCast_succ _).symm | refine And.intro ?_ ?_)), rfl⟩
              · intro hx2
                exfalso
                have hx3 : (bif decide ([L1 0, L1 1, L1 2, L1 3, L1 4, L1 5, L1 6].getD ((k : Nat) : Int).toNat 0 = (x : Int)) then true else false) = false := hx2
                rw [hge2, decide_eq_true rfl] at hx3
                cases hx3
            | false =>
              (repeat' (first | exact trivial | exact fun _ => rfl | exact rfl | refine And.intro ?_ ?_))
              all_goals first | (first | omega | exact u0 (by omega) | exact u1 (by omega) | exact u1 ⟨by omega, by omega⟩ | exact un (by omega) | exact fun hh => hh | exact fun hh => absurd hh (by decide) | exact fun hh => congrArg not hh | exact fun hh => Bool.noConfusion (show true = false from hh) | exact fun hh => Bool.noConfusion (show false = true from hh)) | exact fun _ => hg | exact fun _ _ => hg | skip
              · intro hx2
                exfalso
                have hx3 : (bif decide ([L1 0, L1 1, L1 2, L1 3, L1 4, L1 5, L1 6].getD ((k : Nat) : Int).toNat 0 = (x : Int)) then false else false) = true := hx2
                rw [hge2, decide_eq_true rfl] at hx3
                cases hx3
              · intro _
                (repeat' (first | exact trivial | exact fun _ => rfl | exact rfl | refine And.intro ?_ ?_))
                all_goals first | (first | omega | exact u0 (by omega) | exact u1 (by omega) | exact u1 ⟨by omega, by omega⟩ | exact un (by omega) | exact fun hh => hh | exact fun hh => absurd hh (by decide) | exact fun hh => congrArg not hh | exact fun hh => Bool.noConfusion (show true = false from hh) | exact fun hh => Bool.noConfusion (show false = true from hh)) | skip
                refine ⟨k + 1, ⟨hki, nextk fun h2 => ?_⟩, by omega, ?_⟩
                · rw [hb] at h2
                  cases h2.2
                · exact ent_tau [0, 1, 2, 3, 4, 5] ⟨by (repeat' (first | exact trivial | exact rfl | exact fun _ _ => rfl | exact Or.inl rfl | refine And.intro ?_ ?_)), by (repeat' (first | exact trivial | exact rfl | exact congrArg (SV.int .i64) (Int.natCast_succ _).symm | exact congrArg (SV.int .u64) (Int.natCast_succ _).symm | refine And.intro ?_ ?_)), rfl⟩
          · intro hg
            have hg' : gB none (wB true (decide ([L1 0, L1 1, L1 2, L1 3, L1 4, L1 5, L1 6].getD ((k : Nat) : Int).toNat 0 = (x : Int)))) = false := hg
            rw [hge] at hg'
            have hg2 : ¬ L k = x := by simpa [gB, wB] using hg'
            have hge2 : ¬ [L1 0, L1 1, L1 2, L1 3, L1 4, L1 5, L1 6].getD ((k : Nat) : Int).toNat 0 = (x : Int) := fun e => hg2 (hge.symm.trans e)
            (repeat' (first | exact trivial | exact fun _ => rfl | exact rfl | refine And.intro ?_ ?_))
            all_goals first | (first | omega | exact u0 (by omega) | exact u1 (by omega) | exact u1 ⟨by omega, by omega⟩ | exact un (by omega) | exact fun hh => hh | exact fun hh => absurd hh (by decide) | exact fun hh => congrArg not hh | exact fun hh => Bool.noConfusion (show true = false from hh) | exact fun hh => Bool.noConfusion (show false = true from hh)) | exact fun hh => absurd (hg.symm.trans hh) (by decide) | exact fun hh => absurd (hh.symm.trans hg) (by decide) | skip
            all_goals intro hx2
            all_goals first
              | (exfalso
                 have hx3 : (bif decide ([L1 0, L1 1, L1 2, L1 3, L1 4, L1 5, L1 6].getD ((k : Nat) : Int).toNat 0 = (x : Int)) then false else false) = true := hx2
                 rw [decide_eq_false hge2] at hx3
                 cases hx3
                 done)
              | (exfalso
                 have hx3 : decide ([L1 0, L1 1, L1 2, L1 3, L1 4, L1 5, L1 6].getD ((k : Nat) : Int).toNat 0 = (x : Int)) = true := hx2
                 exact hge2 (of_decide_eq_true hx3))
              | skip
            (repeat' (first | exact trivial | exact fun _ => rfl | exact rfl | refine And.intro ?_ ?_))
            all_goals first | (first | omega | exact u0 (by omega) | exact u1 (by omega) | exact u1 ⟨by omega, by omega⟩ | exact un (by omega) | exact fun hh => hh | exact fun hh => absurd hh (by decide) | exact fun hh => congrArg not hh | exact fun hh => Bool.noConfusion (show true = false from hh) | exact fun hh => Bool.noConfusion (show false = true from hh)) | skip
            refine ⟨k + 1, ⟨hki, nextk fun h2 => hg2 h2.1⟩, by omega, ?_⟩
            exact ent_tau [0, 1, 2, 3, 4, 5] ⟨by (repeat' (first | exact trivial | exact rfl | exact fun _ _ => rfl | exact Or.inl rfl | refine And.intro ?_ ?_)), by (repeat' (first | exact trivial | exact rfl | exact congrArg (SV.int .i64) (Int.natCast_succ _).symm | exact congrArg (SV.int .u64) (Int.natCast_succ _).symm | refine And.intro ?_ ?_)), rfl⟩
        · have e : k = i := by
            have := of_decide_eq_false hlk
            omega
          subst e
          have hfit := fits_of hnk
          have enx : nextW h s N r (HD.ofP k L) x = h.ways s HD.full N r (HD.ofP k L ++ [(x : Int)]) := by
            unfold nextW
            rw [hfit]
          have eof : HD.ofP (k + 1) (upd L1 k x) = HD.ofP k L ++ [(x : Int)] := by
            rw [ofP_upd, ofP_congr hag]
          have cI := IH (upd L1 k x) (by omega)
          rw [show (((k + 1 : Nat)) : Int) = (k : Int) + 1 from rfl] at cI
          (repeat' (first | exact trivial | exact fun _ => rfl | exact rfl | refine And.intro ?_ ?_))
          all_goals first | (first | omega | exact u0 (by omega) | exact u1 (by omega) | exact u1 ⟨by omega, by omega⟩ | exact un (by omega) | exact fun hh => hh | exact fun hh => absurd hh (by decide) | exact fun hh => congrArg not hh | exact fun hh => Bool.noConfusion (show true = false from hh) | exact fun hh => Bool.noConfusion (show false = true from hh)) | skip
          refine CallP.frameH cI [0, 1, 2, 3, 4, 5] (by (repeat' (first | exact trivial | exact rfl | exact fun _ _ => rfl | exact fun _ _ _ _ => rfl | exact Or.inl rfl | exact Or.inr rfl | refine And.intro ?_ ?_))) rfl ?_
          rintro ce h' ⟨b, L3, rfl, rfl, hag3, hb⟩
          refine ⟨rfl, ?_⟩
          have hag4 : ∀ k', k' < k → L3 k' = L k' := fun k' hk' => by
            rw [hag3 k' (by omega)]
            unfold upd
            rw [if_neg (by omega)]
            exact hag k' hk'
          rw [er2, eof, ← enx] at hb
          cases b with
          | true =>
            obtain ⟨A, hA, hA2⟩ := hb
            (repeat' (first | exact trivial | exact fun _ => rfl | exact rfl | refine And.intro ?_ ?_))
            all_goals first | (first | omega | exact u0 (by omega) | exact u1 (by omega) | exact u1 ⟨by omega, by omega⟩ | exact un (by omega) | exact fun hh => hh | exact fun hh => absurd hh (by decide) | exact fun hh => congrArg not hh | exact fun hh => Bool.noConfusion (show true = false from hh) | exact fun hh => Bool.noConfusion (show false = true from hh)) | skip
            intro _
            (repeat' (first | exact trivial | exact fun _ => rfl | exact rfl | refine And.intro ?_ ?_))
            refine ⟨_, _, ⟨true, L3, rfl, rfl, hag4, A, ?_, hA2⟩, ?_⟩
            · rw [er, ways_next]
              exact flat_head hA hxN hno
            · exact ent_tau [0, 1, 2, 3, 4, 5] ⟨by (repeat' (first | exact trivial | exact rfl | exact fun _ _ => rfl | exact Or.inl rfl | refine And.intro ?_ ?_)), by (repeat' (first | exact trivial | exact rfl | exact congrArg (SV.int .i64) (Int.natCast_succ _).symm | exact congrArg (SV.int .u64) (Int.natCast_succ _).symm | refine And.intro ?_ ?_)), rfl⟩
          | false =>
            (repeat' (first | exact trivial | exact fun _ => rfl | exact rfl | refine And.intro ?_ ?_))
            all_goals first | (first | omega | exact u0 (by omega) | exact u1 (by omega) | exact u1 ⟨by omega, by omega⟩ | exact un (by omega) | exact fun hh => hh | exact fun hh => absurd hh (by decide) | exact fun hh => congrArg not hh | exact fun hh => Bool.noConfusion (show true = false from hh) | exact fun hh => Bool.noConfusion (show false = true from hh)) | skip
            intro _
            (repeat' (first | exact trivial | exact fun _ => rfl | exact rfl | refine And.intro ?_ ?_))
            all_goals first | (first | omega | exact u0 (by omega) | exact u1 (by omega) | exact u1 ⟨by omega, by omega⟩ | exact un (by omega) | exact fun hh => hh | exact fun hh => absurd hh (by decide) | exact fun hh => congrArg not hh | exact fun hh => Bool.noConfusion (show true = false from hh) | exact fun hh => Bool.noConfusion (show false = true from hh)) | skip
            refine ⟨(x + 1, L3), ⟨hxN, hag4, next hb⟩, by simp only; omega, ?_⟩
            exact ent_tau [0, 1, 2, 3, 4, 5] ⟨by (repeat' (first | exact trivial | exact rfl | exact fun _ _ => rfl | exact Or.inl rfl | refine And.intro ?_ ?_)), by (repeat' (first | exact trivial | exact rfl | exact congrArg (SV.int .i64) (Int.natCast_succ _).symm | exact congrArg (SV.int .u64) (Int.natCast_succ _).symm | refine And.intro ?_ ?_)), rfl⟩
      · have e : x = N := by
          have := of_decide_eq_false hlx
          simp only at this
          omega
        subst e
        (repeat' (first | exact trivial | exact fun _ => rfl | exact rfl | refine And.intro ?_ ?_))
        all_goals first | (first | omega | exact u0 (by omega) | exact u1 (by omega) | exact u1 ⟨by omega, by omega⟩ | exact un (by omega) | exact fun hh => hh | exact fun hh => absurd hh (by decide) | exact fun hh => congrArg not hh | exact fun hh => Bool.noConfusion (show true = false from hh) | exact fun hh => Bool.noConfusion (show false = true from hh)) | skip
        refine ⟨_, _, ⟨false, L1, rfl, rfl, hag, ?_⟩, ?_⟩
        · rw [er, ways_next]
          exact flat_none hno
        · exact ent_tau [0, 1, 2, 3, 4, 5] ⟨by (repeat' (first | exact trivial | exact rfl | exact fun _ _ => rfl | exact Or.inl rfl | refine And.intro ?_ ?_)), by (repeat' (first | exact trivial | exact rfl | exact congrArg (SV.int .i64) (Int.natCast_succ _).symm | exact congrArg (SV.int .u64) (Int.natCast_succ _).symm | refine And.intro ?_ ?_)), rfl⟩
end Go.Proofs.Ytgofhjihkinknaa
/-
  Contracts: Fewest.
-/
namespace Go.Proofs.Ytgofhjihkinknaa
open Go Go.Sy Kuhn
set_option linter.unusedSimpArgs false
set_option maxRecDepth 100000
set_option maxHeartbeats 4000000
attribute [local irreducible] CallP CodeP Ent YieldP
attribute [local irreducible] HD.ch maskO

theorem full_bits (h : HD) (s : Bool) : h.need s (fun i => h.every.testBit i) = h.few s := by
  have e : h.okN (fun i => h.every.testBit i) = h.okN HD.full := by
    funext i
    simp only [HD.okN, HD.full, HD.every_bit]
    cases decide (i < h.n) <;> rfl
  have e2 : h.adj s (fun i => h.every.testBit i) = h.adj s HD.full := by
    funext a r
    simp only [HD.adj, HD.full, HD.every_bit]
    cases decide (a < h.n) <;> cases decide (r < h.n) <;> rfl
  unfold HD.few HD.need
  rw [e, e2]
theorem few_le (h : HD) (s : Bool) : h.few s ≤ 7 := by
  unfold HD.few HD.need
  have := cnt_bnd (h.okN HD.full) 7
  omega
theorem plan_is {h : HD} (hv : h.Valid) (s : Bool) : (h.ways s HD.full (h.few s) h.n []).head? = some (h.plan s) := by
  have hne := (HD.ways_ne hv s HD.full (h.few s)).2 (Nat.le_refl _)
  unfold HD.plan
  cases hw : h.ways s HD.full (h.few s) h.n [] with
  | nil => exact absurd hw hne
  | cons A l => rfl
/-- The plan as it lies. -/
def plF (h : HD) (s : Bool) (k : Nat) : List SV := [.int .i64 ((h.plan s).getD k 0)]
theorem few_end {h : HD} (hv : h.Valid) (s : Bool) {b : Bool} {L' : Nat → Int} (hb : match b with
    | true => ∃ A, (h.ways s HD.full (h.few s) (h.n - 0) (HD.ofP 0 fun _ => 0)).head? = some A ∧ ∀ k, k < h.n → L' k = A.getD k 0
    | false => h.ways s HD.full (h.few s) (h.n - 0) (HD.ofP 0 fun _ => 0) = []) : b = true ∧ ∀ k, k < h.n → L' k = (h.plan s).getD k 0 := by
  have hp := plan_is hv s
  have e : HD.ofP 0 (fun _ => 0) = [] := rfl
  rw [Nat.sub_zero, e] at hb
  cases b with
  | false =>
    simp only at hb
    rw [hb] at hp
    cases hp
  | true =>
    obtain ⟨A, hA, hA2⟩ := hb
    rw [hp] at hA
    cases hA
    exact ⟨rfl, hA2⟩
theorem cp_row {h : HD} {s : Bool} {L' : Nat → Int} (hn : h.n ≤ 7) (hL : ∀ k, k < h.n → L' k = (h.plan s).getD k 0) {k : Nat} (hk : k < h.n) (z : List SV) :
    selL (decide (0 ≤ k ∧ k < 0 + Nat.min 7 h.n)) [.int .i64 ([L' 0, L' 1, L' 2, L' 3, L' 4, L' 5, L' 6].getD (0 + (k - 0)) 0)] z = plF h s k := by
  have e : Nat.min 7 h.n = h.n := Nat.min_eq_right hn
  rw [e, Nat.zero_add, Nat.zero_add, Nat.sub_zero, decide_eq_true ⟨Nat.zero_le _, hk⟩, selL_true, get7 L' k (by omega), hL k hk]
  rfl
theorem t26 (h : HD) (hv : h.Valid) (s : Bool) : CallP Try.prog 26 [HD.A h, .bool s] (HD.H h) (Ret (.tup [.int .i64 (h.few s : Nat), .slice 1 1 0 h.n h.n, .int .i64 0]) (HD.H h ++ [some (.arr 1 h.n h.n (plF h s))])) := by
  have hn7 := hv.2.1
  have hfew := few_le h s
  have c47 := t47_0 h 65 (.inl rfl) true fun hv => t65 h
  have c66 := t66 h hv s h.every (HD.every_lt hn7) (fun i hi => by rw [HD.every_bit] at hi; exact of_decide_eq_true hi)
  rw [full_bits] at c66
  have c68 := t68 h hv s (h.few s) hfew h.n 0 (fun _ => 0) (by omega)
  refine callDR (E := E) E_ok Try.func26 rfl (g := 46) (k1 := 5) (k2 := 2) Try.func46 isrec46 rfl ?_
  (repeat' (first | exact trivial | exact fun _ => rfl | exact rfl | refine And.intro ?_ ?_))
  refine CallP.frameH c47 [0] (by (repeat' (first | exact trivial | exact rfl | exact fun _ _ => rfl | exact fun _ _ _ _ => rfl | exact Or.inl rfl | exact Or.inr rfl | refine And.intro ?_ ?_))) rfl ?_
  rintro ce h' (⟨hv', hc1, rfl, rfl⟩ | ⟨hv', rfl, rfl⟩ | ⟨hv', hc1, rfl, rfl⟩)
  · refine ⟨rfl, ?_⟩
    (repeat' (first | exact trivial | exact fun _ => rfl | exact rfl | refine And.intro ?_ ?_))
    refine drawP E_ok [3] pl26_3 (by kernel_rfl) ?_
    (repeat' (first | exact trivial | exact fun _ => rfl | exact rfl | refine And.intro ?_ ?_))
    all_goals refine (t56 s).use [] ?_ trivial rfl
    all_goals (repeat' (first | exact trivial | exact fun _ => rfl | exact rfl | refine And.intro ?_ ?_))
    all_goals refine (t50 h hv s).use [0] ?_ (by (repeat' (first | exact trivial | exact rfl | exact fun _ _ => rfl | exact fun _ _ _ _ => rfl | exact Or.inl rfl | exact Or.inr rfl | refine And.intro ?_ ?_))) rfl
    all_goals (repeat' (first | exact trivial | exact fun _ => rfl | exact rfl | refine And.intro ?_ ?_))
    all_goals refine drawP E_ok [3, 4] pl26_4 (by kernel_rfl) ?_
    all_goals (repeat' (first | exact trivial | exact fun _ => rfl | exact rfl | refine And.intro ?_ ?_))
    all_goals refine (t67 h hn7).use [0] ?_ (by (repeat' (first | exact trivial | exact rfl | exact fun _ _ => rfl | exact fun _ _ _ _ => rfl | exact Or.inl rfl | exact Or.inr rfl | refine And.intro ?_ ?_))) rfl
    all_goals (repeat' (first | exact trivial | exact fun _ => rfl | exact rfl | refine And.intro ?_ ?_))
    all_goals refine c66.use [] ?_ trivial rfl
    all_goals (repeat' (first | exact trivial | exact fun _ => rfl | exact rfl | refine And.intro ?_ ?_))
    all_goals refine CallP.frameH c68 [0, 3, 5, 6, 4, 7] (by (repeat' (first | exact trivial | exact rfl | exact fun _ _ => rfl | exact fun _ _ _ _ => rfl | exact Or.inl rfl | exact Or.inr rfl | refine And.intro ?_ ?_))) rfl ?_
    all_goals rintro ce h' ⟨b, L', rfl, rfl, _, hb⟩
    all_goals refine ⟨rfl, ?_⟩
    all_goals obtain ⟨rfl, hL⟩ : b = true ∧ ∀ k, k < h.n → L' k = (h.plan s).getD k 0 := few_end hv s hb
    all_goals (repeat' (first | exact trivial | exact fun _ => rfl | exact rfl | refine And.intro ?_ ?_))
    all_goals first | (first | omega | exact u0 (by omega) | exact u1 (by omega) | exact u1 ⟨by omega, by omega⟩ | exact un (by omega) | exact fun hh => hh | exact fun hh => absurd hh (by decide) | exact fun hh => congrArg not hh | exact fun hh => Bool.noConfusion (show true = false from hh) | exact fun hh => Bool.noConfusion (show false = true from hh)) | exact (show (8 : Int) * h.n ≤ 281474976710656 by omega) | skip
    all_goals intro _
    all_goals (repeat' (first | exact trivial | exact fun _ => rfl | exact rfl | refine And.intro ?_ ?_))
    all_goals first | (first | omega | exact u0 (by omega) | exact u1 (by omega) | exact u1 ⟨by omega, by omega⟩ | exact un (by omega) | exact fun hh => hh | exact fun hh => absurd hh (by decide) | exact fun hh => congrArg not hh | exact fun hh => Bool.noConfusion (show true = false from hh) | exact fun hh => Bool.noConfusion (show false = true from hh)) | skip
    all_goals refine ⟨_, _, ⟨rfl, rfl⟩, ?_⟩
    all_goals refine ent_tau [0, 8] ⟨?_, ?_, rfl⟩
    all_goals first | (repeat' (first | exact trivial | exact rfl | exact fun _ _ => rfl | exact fun _ _ _ _ => rfl | exact Or.inl rfl | exact Or.inr rfl | refine And.intro ?_ ?_)) | skip
    all_goals first | exact fun k hk => cp_row hn7 hL hk _ | (repeat' (first | exact trivial | exact rfl | exact congrArg (SV.int .i64) (Int.natCast_succ _).symm | exact congrArg (SV.int .u64) (Int.natCast_succ _).symm | refine And.intro ?_ ?_))
  · exact absurd hv hv'
  · cases hc1
end Go.Proofs.Ytgofhjihkinknaa
