/-
  Parts: P5, P6, P6a, P6b.
-/
import Derived.Test.YtgofhjihkinknaaN15
set_option linter.unusedVariables false
/-
  Contracts: a horse for one more move is sought.
-/
namespace Go.Proofs.Ytgofhjihkinknaa
open Go Go.Sy Kuhn
set_option linter.unusedSimpArgs false
set_option maxRecDepth 100000
set_option maxHeartbeats 4000000
attribute [local irreducible] CallP CodeP Ent YieldP
attribute [local irreducible] HD.ch maskO

theorem aget_f : ∀ (m : List (Int × Int)) (k : Int), (aget m k).map (·.2) = fget m k
  | [], _ => rfl
  | (a, b) :: l, k => by
    have ih := aget_f l k
    simp only [aget, fget]
    by_cases h : a = k
    · rw [if_pos h, if_pos h]; rfl
    · rw [if_neg h, if_neg h, ← ih]
      cases aget l k <;> rfl
theorem aset_f : ∀ (m : List (Int × Int)) (k v : Int), aset m k v = fset m k v
  | [], _, _ => rfl
  | (a, b) :: l, k, v => by
    have ih := aset_f l k v
    simp only [fset]
    unfold aset at ih ⊢
    simp only [aget]
    by_cases h : a = k
    · rw [if_pos h, if_pos h]; rfl
    · rw [if_neg h, if_neg h, ← ih]
      cases aget l k with
      | none => rfl
      | some q => rfl
theorem ahas_f (m : List (Int × Int)) (k : Int) : ahas m k = (fget m k).isSome := by
  rw [← aget_f]
  unfold ahas
  cases aget m k <;> rfl
theorem aval_f (m : List (Int × Int)) (k : Int) : aval m k = (fget m k).getD 0 := by
  rw [← aget_f]
  unfold aval
  cases aget m k <;> rfl
def Af (c : Nat → Nat) (S : Nat) (i k : Nat) : Bool := S.testBit k && (c i).testBit k
theorem scanP_succ {m : Nat → PS → Bool × PS} {A : Nat → Nat → Bool} {i c k : Nat} {s : PS} : scanP m A i (c + 1) k s =
    if (!A i k || s.1.testBit k) = true then scanP m A i c (k + 1) s
    else match fget s.2 k with
      | none => (true, (s.1 ||| 2 ^ k, fset s.2 k i))
      | some j => match m j.toNat (s.1 ||| 2 ^ k, s.2) with
        | (true, s2) => (true, (s2.1, fset s2.2 k i))
        | (false, s2) => scanP m A i c (k + 1) s2 := rfl
def H91 (c : Nat → Nat) (S : Nat) (s : PS) : SHeap := [some (.roc [.int .u64 S]), some (.roc (chI fun j => (c j : Nat))), some (.cells [.int .u64 s.1]), some (.roc [.map 5]), some (.roc [.fn (.func 91) [] [.ptr 0 0, .ptr 1 0, .ptr 2 0, .ptr 3 0, .ptr 4 0]]), some (.cmap s.2)]
def pl91_5s : Plan := .eager 1 <| .eager 2 <| .alt 0 (.alt 3 (.alt 4 (.alt 5 .done .no) .no) .no) .no
theorem t91 (c : Nat → Nat) (hc : ∀ j, j < 7 → c j < 128) (S : Nat) (hS : S < 128) : ∀ (f i : Nat) (s : PS), i < 7 → s.1 < 128 → FOk s.2 → unseen (stP s) 7 < f →
    CallP Try.prog 91 [.int .i64 i, .ptr 0 0, .ptr 1 0, .ptr 2 0, .ptr 3 0, .ptr 4 0] (H91 c S s) (Ret (.bool (goP (Af c S) f i s).1) (H91 c S (goP (Af c S) f i s).2))
  | 0, i, s, _, _, _, h => absurd h (Nat.not_lt_zero _)
  | f + 1, i, s, hi, hs, hL, hU => by
    have IH := t91 c hc S hS f
    obtain ⟨b, s2, hr⟩ : ∃ b s2, goP (Af c S) (f + 1) i s = (b, s2) := ⟨_, _, rfl⟩
    rw [hr]
    have hr2 : scanP (goP (Af c S) f) (Af c S) i 7 0 s = (b, s2) := hr
    refine callR (E := E) E_ok Try.func91 rfl ?_
    refine And.intro ?_ ?_
    · simp [AllP, under, gB, wB, inR_iff, IntKind.bits]
    refine loopP E_ok [0, 1, 2, 3, 4, 5] (fun g : Nat × PS => [(11, .int .i64 g.1)]) (fun g _ => H91 c S g.2)
      (fun g => g.1 ≤ 7 ∧ g.2.1 < 128 ∧ FOk g.2.2 ∧ unseen (stP g.2) 7 ≤ f ∧ scanP (goP (Af c S) f) (Af c S) i (7 - g.1) g.1 g.2 = (b, s2)) (fun g => 7 - g.1) (0, s) ⟨Nat.zero_le _, hs, hL, Nat.le_of_lt_succ hU, hr2⟩ ?_ ?_
    · exact ent_tau [0, 1, 2, 3, 4, 5] ⟨by (repeat' (first | exact trivial | exact rfl | exact fun _ _ => rfl | exact Or.inl rfl | refine And.intro ?_ ?_)), by (repeat' (first | exact trivial | exact rfl | exact congrArg (SV.int .i64) (Int.natCast_succ _).symm | exact congrArg (SV.int .u64) (Int.natCast_succ _).symm | refine And.intro ?_ ?_)), rfl⟩
    rintro ⟨k, s'⟩ ⟨hk, hs', hL', hU', hE⟩
    simp only at hk hs' hL' hU' hE
    refine And.intro ?_ (And.intro (fun hlt => ?_) (fun hlt => ?_))
    · simp [AllP, under, gB, wB, inR_iff, IntKind.bits]
    · have hk7 : k < 7 := by
        have := of_decide_eq_true hlt
        simp only at this
        omega
      have e7 : 7 - k = (7 - (k + 1)) + 1 := by omega
      rw [e7, scanP_succ] at hE
      obtain ⟨b1, hb1⟩ : ∃ b1, S.testBit k = b1 := ⟨_, rfl⟩
      obtain ⟨b2, hb2⟩ : ∃ b2, (c i).testBit k = b2 := ⟨_, rfl⟩
      obtain ⟨b3, hb3⟩ : ∃ b3, s'.1.testBit k = b3 := ⟨_, rfl⟩
      have c1 : CallP Try.prog 51 [.int .u64 S, .int .i64 k] [] (Ret (.bool b1) []) := by
        rw [← hb1]
        exact t51 S (Nat.lt_trans hS (by decide)) k ⟨by omega, by omega⟩
      have c2 := t51c c hc i k hi hk7
      rw [hb2] at c2
      have c3 : CallP Try.prog 51 [.int .u64 s'.1, .int .i64 k] [] (Ret (.bool b3) []) := by
        rw [← hb3]
        exact t51 s'.1 (Nat.lt_trans hs' (by decide)) k ⟨by omega, by omega⟩
      have eA : (!Af c S i k || s'.1.testBit k) = (!(b1 && b2) || b3) := by
        unfold Af
        rw [hb1, hb2, hb3]
      rw [eA] at hE
      (repeat' (first | exact trivial | exact fun _ => rfl | exact rfl | refine And.intro ?_ ?_))
      refine c1.use [] ?_ trivial rfl
      have next : (!(b1 && b2) || b3) = true → scanP (goP (Af c S) f) (Af c S) i (7 - (k + 1)) (k + 1) s' = (b, s2) := fun h => by
        rw [if_pos h] at hE
        exact hE
      have go1 : (!(b1 && b2) || b3) = false → (match fget s'.2 k with
          | none => (true, (s'.1 ||| 2 ^ k, fset s'.2 k i))
          | some j => match goP (Af c S) f j.toNat (s'.1 ||| 2 ^ k, s'.2) with
            | (true, s2) => (true, (s2.1, fset s2.2 k i))
            | (false, s2) => scanP (goP (Af c S) f) (Af c S) i (7 - (k + 1)) (k + 1) s2) = (b, s2) := fun h => by
        rw [if_neg (by rw [h]; decide)] at hE
        exact hE
      clear hE
      cases b1 with
      | false =>
        refine And.intro ?_ (And.intro (fun hg => absurd hg (by decide)) (fun hg => ?_))
        · (repeat' (first | exact trivial | exact fun _ => rfl | exact rfl | refine And.intro ?_ ?_))
          all_goals (first | omega | exact u0 (by omega) | exact u1 (by omega) | exact u1 ⟨by omega, by omega⟩ | exact un (by omega) | exact fun hh => hh | exact fun hh => absurd hh (by decide) | exact fun hh => congrArg not hh | exact fun hh => Bool.noConfusion (show true = false from hh) | exact fun hh => Bool.noConfusion (show false = true from hh))
        · (repeat' (first | exact trivial | exact fun _ => rfl | exact rfl | refine And.intro ?_ ?_))
          all_goals first | (first | omega | exact u0 (by omega) | exact u1 (by omega) | exact u1 ⟨by omega, by omega⟩ | exact un (by omega) | exact fun hh => hh | exact fun hh => absurd hh (by decide) | exact fun hh => congrArg not hh | exact fun hh => Bool.noConfusion (show true = false from hh) | exact fun hh => Bool.noConfusion (show false = true from hh)) | skip
          intro _
          (repeat' (first | exact trivial | exact fun _ => rfl | exact rfl | refine And.intro ?_ ?_))
          all_goals first | (first | omega | exact u0 (by omega) | exact u1 (by omega) | exact u1 ⟨by omega, by omega⟩ | exact un (by omega) | exact fun hh => hh | exact fun hh => absurd hh (by decide) | exact fun hh => congrArg not hh | exact fun hh => Bool.noConfusion (show true = false from hh) | exact fun hh => Bool.noConfusion (show false = true from hh)) | skip
          intro _
          (repeat' (first | exact trivial | exact fun _ => rfl | exact rfl | refine And.intro ?_ ?_))
          all_goals first | (first | omega | exact u0 (by omega) | exact u1 (by omega) | exact u1 ⟨by omega, by omega⟩ | exact un (by omega) | exact fun hh => hh | exact fun hh => absurd hh (by decide) | exact fun hh => congrArg not hh | exact fun hh => Bool.noConfusion (show true = false from hh) | exact fun hh => Bool.noConfusion (show false = true from hh)) | skip
          refine ⟨(k + 1, s'), ⟨hk7, hs', hL', hU', next rfl⟩, by simp only; omega, ?_⟩
          exact ent_tau [0, 1, 2, 3, 4, 5] ⟨by (repeat' (first | exact trivial | exact rfl | exact fun _ _ => rfl | exact Or.inl rfl | refine And.intro ?_ ?_)), by (repeat' (first | exact trivial | exact rfl | exact congrArg (SV.int .i64) (Int.natCast_succ _).symm | exact congrArg (SV.int .u64) (Int.natCast_succ _).symm | refine And.intro ?_ ?_)), rfl⟩
      | true =>
        refine And.intro ?_ (And.intro (fun hg => ?_) (fun hg => absurd hg (by decide)))
        · (repeat' (first | exact trivial | exact fun _ => rfl | exact rfl | refine And.intro ?_ ?_))
          all_goals (first | omega | exact u0 (by omega) | exact u1 (by omega) | exact u1 ⟨by omega, by omega⟩ | exact un (by omega) | exact fun hh => hh | exact fun hh => absurd hh (by decide) | exact fun hh => congrArg not hh | exact fun hh => Bool.noConfusion (show true = false from hh) | exact fun hh => Bool.noConfusion (show false = true from hh))
        · refine c2.use [] ?_ trivial rfl
          cases b2 with
          | false =>
            refine And.intro ?_ (And.intro (fun hg => absurd hg (by decide)) (fun hg => ?_))
            · (repeat' (first | exact trivial | exact fun _ => rfl | exact rfl | refine And.intro ?_ ?_))
              all_goals (first | omega | exact u0 (by omega) | exact u1 (by omega) | exact u1 ⟨by omega, by omega⟩ | exact un (by omega) | exact fun hh => hh | exact fun hh => absurd hh (by decide) | exact fun hh => congrArg not hh | exact fun hh => Bool.noConfusion (show true = false from hh) | exact fun hh => Bool.noConfusion (show false = true from hh))
            · (repeat' (first | exact trivial | exact fun _ => rfl | exact rfl | refine And.intro ?_ ?_))
              all_goals first | (first | omega | exact u0 (by omega) | exact u1 (by omega) | exact u1 ⟨by omega, by omega⟩ | exact un (by omega) | exact fun hh => hh | exact fun hh => absurd hh (by decide) | exact fun hh => congrArg not hh | exact fun hh => Bool.noConfusion (show true = false from hh) | exact fun hh => Bool.noConfusion (show false = true from hh)) | skip
              intro _
              (repeat' (first | exact trivial | exact fun _ => rfl | exact rfl | refine And.intro ?_ ?_))
              all_goals first | (first | omega | exact u0 (by omega) | exact u1 (by omega) | exact u1 ⟨by omega, by omega⟩ | exact un (by omega) | exact fun hh => hh | exact fun hh => absurd hh (by decide) | exact fun hh => congrArg not hh | exact fun hh => Bool.noConfusion (show true = false from hh) | exact fun hh => Bool.noConfusion (show false = true from hh)) | skip
              refine ⟨(k + 1, s'), ⟨hk7, hs', hL', hU', next rfl⟩, by simp only; omega, ?_⟩
              exact ent_tau [0, 1, 2, 3, 4, 5] ⟨by (repeat' (first | exact trivial | exact rfl | exact fun _ _ => rfl | exact Or.inl rfl | refine And.intro ?_ ?_)), by (repeat' (first | exact trivial | exact rfl | exact congrArg (SV.int .i64) (Int.natCast_succ _).symm | exact congrArg (SV.int .u64) (Int.natCast_succ _).symm | refine And.intro ?_ ?_)), rfl⟩
          | true =>
            refine And.intro ?_ (And.intro (fun hg => ?_) (fun hg => absurd hg (by decide)))
            · (repeat' (first | exact trivial | exact fun _ => rfl | exact rfl | refine And.intro ?_ ?_))
              all_goals (first | omega | exact u0 (by omega) | exact u1 (by omega) | exact u1 ⟨by omega, by omega⟩ | exact un (by omega) | exact fun hh => hh | exact fun hh => absurd hh (by decide) | exact fun hh => congrArg not hh | exact fun hh => Bool.noConfusion (show true = false from hh) | exact fun hh => Bool.noConfusion (show false = true from hh))
            · refine c3.use [] ?_ trivial rfl
              cases b3 with
              | true =>
                (repeat' (first | exact trivial | exact fun _ => rfl | exact rfl | refine And.intro ?_ ?_))
                all_goals first | (first | omega | exact u0 (by omega) | exact u1 (by omega) | exact u1 ⟨by omega, by omega⟩ | exact un (by omega) | exact fun hh => hh | exact fun hh => absurd hh (by decide) | exact fun hh => congrArg not hh | exact fun hh => Bool.noConfusion (show true = false from hh) | exact fun hh => Bool.noConfusion (show false = true from hh)) | skip
                intro _
                (repeat' (first | exact trivial | exact fun _ => rfl | exact rfl | refine And.intro ?_ ?_))
                all_goals first | (first | omega | exact u0 (by omega) | exact u1 (by omega) | exact u1 ⟨by omega, by omega⟩ | exact un (by omega) | exact fun hh => hh | exact fun hh => absurd hh (by decide) | exact fun hh => congrArg not hh | exact fun hh => Bool.noConfusion (show true = false from hh) | exact fun hh => Bool.noConfusion (show false = true from hh)) | skip
                refine ⟨(k + 1, s'), ⟨hk7, hs', hL', hU', next rfl⟩, by simp only; omega, ?_⟩
                exact ent_tau [0, 1, 2, 3, 4, 5] ⟨by (repeat' (first | exact trivial | exact rfl | exact fun _ _ => rfl | exact Or.inl rfl | refine And.intro ?_ ?_)), by (repeat' (first | exact trivial | exact rfl | exact congrArg (SV.int .i64) (Int.natCast_succ _).symm | exact congrArg (SV.int .u64) (Int.natCast_succ _).symm | refine And.intro ?_ ?_)), rfl⟩
              | false =>
                (repeat' (first | exact trivial | exact fun _ => rfl | exact rfl | refine And.intro ?_ ?_))
                all_goals first | (first | omega | exact u0 (by omega) | exact u1 (by omega) | exact u1 ⟨by omega, by omega⟩ | exact un (by omega) | exact fun hh => hh | exact fun hh => absurd hh (by decide) | exact fun hh => congrArg not hh | exact fun hh => Bool.noConfusion (show true = false from hh) | exact fun hh => Bool.noConfusion (show false = true from hh)) | skip
                intro _
                have go2 := go1 rfl
                clear next go1
                have pk := pow_int k
                have p2 := pow_lt7 hk7
                have pk0 : (0 : Int) ≤ 1 * 2 ^ ((k : Nat) : Int).toNat := by rw [pk]; exact Int.natCast_nonneg _
                have hf := unF (A := ((s'.1 : Nat) : Int)) rfl pk
                refine And.intro trivial ?_
                refine drawP E_ok [] pl91_5s (by kernel_rfl) ?_
                (repeat' (first | exact trivial | exact fun _ => rfl | exact rfl | refine And.intro ?_ ?_))
                all_goals first | (first | omega | exact u0 (by omega) | exact u1 (by omega) | exact u1 ⟨by omega, by omega⟩ | exact un (by omega) | exact fun hh => hh | exact fun hh => absurd hh (by decide) | exact fun hh => congrArg not hh | exact fun hh => Bool.noConfusion (show true = false from hh) | exact fun hh => Bool.noConfusion (show false = true from hh)) | exact pk0 | (rw [pk]; omega) | exact u0 (show ((k : Nat) : Int) < 64 by omega) | skip
                refine (t82 s'.1 (2 ^ k) (Nat.lt_trans hs' (by decide)) (Nat.lt_trans p2 (by decide))).use [6] ?_ (by (first | exact ⟨⟨rfl, rfl, hf⟩, trivial⟩ | exact ⟨⟨rfl, rfl, fun k hk => hf k hk⟩, trivial⟩)) rfl
                have hmk : s'.1 ||| 2 ^ k < 128 := Nat.or_lt_two_pow (n := 7) hs' p2
                (repeat' (first | exact trivial | exact fun _ => rfl | exact rfl | refine And.intro ?_ ?_))
                all_goals first | (first | omega | exact u0 (by omega) | exact u1 (by omega) | exact u1 ⟨by omega, by omega⟩ | exact un (by omega) | exact fun hh => hh | exact fun hh => absurd hh (by decide) | exact fun hh => congrArg not hh | exact fun hh => Bool.noConfusion (show true = false from hh) | exact fun hh => Bool.noConfusion (show false = true from hh)) | skip
                · intro hg
                  have hah : ahas s'.2 k = true := by
                    have hg2 : gB none (wB false (!ahas s'.2 k)) = true := hg
                    revert hg2
                    cases ahas s'.2 k <;> decide
                  obtain ⟨j, hj⟩ : ∃ j, fget s'.2 k = some j := by
                    rw [ahas_f] at hah
                    exact Option.isSome_iff_exists.1 hah
                  have hv := hL'.val _ (fget_mem hj)
                  simp only at hv
                  have hav : aval s'.2 k = ((j.toNat : Nat) : Int) := by
                    rw [aval_f, hj, Option.getD_some]
                    omega
                  have hun := unseen_mark (s := stP s') (n := 7) (k := k) hk7 hb3
                  rw [← stP_mark] at hun
                  have cj := IH j.toNat (s'.1 ||| 2 ^ k, s'.2) (by omega) hmk hL' (by omega)
                  rw [← hav] at cj
                  obtain ⟨b4, s4, hr4⟩ : ∃ b4 s4, goP (Af c S) f j.toNat (s'.1 ||| 2 ^ k, s'.2) = (b4, s4) := ⟨_, _, rfl⟩
                  have inv := goP_inv (Af c S) f j.toNat (s'.1 ||| 2 ^ k, s'.2) (by omega) hmk hL'
                  rw [hr4] at cj inv
                  rw [hj] at go2
                  simp only [hr4] at go2
                  refine cj.use [0, 1, 2, 3, 4, 5] ?_ (by (repeat' (first | exact trivial | exact rfl | exact fun _ _ => rfl | exact fun _ _ _ _ => rfl | exact Or.inl rfl | exact Or.inr rfl | refine And.intro ?_ ?_))) rfl
                  cases b4 with
                  | true =>
                    simp only at go2
                    obtain ⟨rfl, rfl⟩ := Prod.mk.inj go2
                    have e5 : (s4.1, fset s4.2 k i) = (s4.1, aset s4.2 k i) := by rw [aset_f]
                    rw [e5]
                    (repeat' (first | exact trivial | exact fun _ => rfl | exact rfl | refine And.intro ?_ ?_))
                    all_goals first | (first | omega | exact u0 (by omega) | exact u1 (by omega) | exact u1 ⟨by omega, by omega⟩ | exact un (by omega) | exact fun hh => hh | exact fun hh => absurd hh (by decide) | exact fun hh => congrArg not hh | exact fun hh => Bool.noConfusion (show true = false from hh) | exact fun hh => Bool.noConfusion (show false = true from hh)) | skip
                    · intro _
                      (repeat' (first | exact trivial | exact fun _ => rfl | exact rfl | refine And.intro ?_ ?_))
                      all_goals first | (first | omega | exact u0 (by omega) | exact u1 (by omega) | exact u1 ⟨by omega, by omega⟩ | exact un (by omega) | exact fun hh => hh | exact fun hh => absurd hh (by decide) | exact fun hh => congrArg not hh | exact fun hh => Bool.noConfusion (show true = false from hh) | exact fun hh => Bool.noConfusion (show false = true from hh)) | skip
                      exact ent_tau [0, 1, 2, 3, 4, 5] ⟨by (repeat' (first | exact trivial | exact rfl | exact fun _ _ => rfl | exact Or.inl rfl | refine And.intro ?_ ?_)), by (repeat' (first | exact trivial | exact rfl | exact congrArg (SV.int .i64) (Int.natCast_succ _).symm | exact congrArg (SV.int .u64) (Int.natCast_succ _).symm | refine And.intro ?_ ?_)), rfl⟩
                    · intro hx
                      simp [hah] at hx
                  | false =>
                    simp only at go2
                    have hUn : unseen (stP s4) 7 ≤ f := by
                      have : unseen (stP s4) 7 ≤ unseen (stP (s'.1 ||| 2 ^ k, s'.2)) 7 := cnt_le fun r hr h => by
                        cases h5 : (s'.1 ||| 2 ^ k).testBit r
                        · show (!(s'.1 ||| 2 ^ k).testBit r) = true
                          rw [h5]
                          rfl
                        · have h6 := inv.2.2 r h5
                          simp only [stP] at h
                          rw [h6] at h
                          cases h
                      omega
                    (repeat' (first | exact trivial | exact fun _ => rfl | exact rfl | refine And.intro ?_ ?_))
                    all_goals first | (first | omega | exact u0 (by omega) | exact u1 (by omega) | exact u1 ⟨by omega, by omega⟩ | exact un (by omega) | exact fun hh => hh | exact fun hh => absurd hh (by decide) | exact fun hh => congrArg not hh | exact fun hh => Bool.noConfusion (show true = false from hh) | exact fun hh => Bool.noConfusion (show false = true from hh)) | skip
                    · intro hx
                      simp [hah] at hx
                    · intro _
                      (repeat' (first | exact trivial | exact fun _ => rfl | exact rfl | refine And.intro ?_ ?_))
                      all_goals first | (first | omega | exact u0 (by omega) | exact u1 (by omega) | exact u1 ⟨by omega, by omega⟩ | exact un (by omega) | exact fun hh => hh | exact fun hh => absurd hh (by decide) | exact fun hh => congrArg not hh | exact fun hh => Bool.noConfusion (show true = false from hh) | exact fun hh => Bool.noConfusion (show false = true from hh)) | skip
                      refine ⟨(k + 1, s4), ⟨hk7, inv.1, inv.2.1, hUn, go2⟩, by simp only; omega, ?_⟩
                      exact ent_tau [0, 1, 2, 3, 4, 5] ⟨by (repeat' (first | exact trivial | exact rfl | exact fun _ _ => rfl | exact Or.inl rfl | refine And.intro ?_ ?_)), by (repeat' (first | exact trivial | exact rfl | exact congrArg (SV.int .i64) (Int.natCast_succ _).symm | exact congrArg (SV.int .u64) (Int.natCast_succ _).symm | refine And.intro ?_ ?_)), rfl⟩
                · intro hg
                  have hah : ahas s'.2 k = false := by
                    have hg2 : gB none (wB false (!ahas s'.2 k)) = false := hg
                    revert hg2
                    cases ahas s'.2 k <;> decide
                  have hj : fget s'.2 k = none := by
                    rw [ahas_f] at hah
                    simpa using hah
                  rw [hj] at go2
                  simp only at go2
                  obtain ⟨rfl, rfl⟩ := Prod.mk.inj go2
                  have e5 : (s'.1 ||| 2 ^ k, fset s'.2 k i) = (s'.1 ||| 2 ^ k, aset s'.2 k i) := by rw [aset_f]
                  rw [e5]
                  have nah : (!ahas s'.2 k) = true := by rw [hah]; rfl
                  (repeat' (first | exact trivial | exact fun _ => rfl | exact rfl | refine And.intro ?_ ?_))
                  all_goals first | (first | omega | exact u0 (by omega) | exact u1 (by omega) | exact u1 ⟨by omega, by omega⟩ | exact un (by omega) | exact fun hh => hh | exact fun hh => absurd hh (by decide) | exact fun hh => congrArg not hh | exact fun hh => Bool.noConfusion (show true = false from hh) | exact fun hh => Bool.noConfusion (show false = true from hh)) | exact u0 (fun h => absurd (nah.symm.trans h) (by decide)) | skip
                  · intro _
                    (repeat' (first | exact trivial | exact fun _ => rfl | exact rfl | refine And.intro ?_ ?_))
                    all_goals first | (first | omega | exact u0 (by omega) | exact u1 (by omega) | exact u1 ⟨by omega, by omega⟩ | exact un (by omega) | exact fun hh => hh | exact fun hh => absurd hh (by decide) | exact fun hh => congrArg not hh | exact fun hh => Bool.noConfusion (show true = false from hh) | exact fun hh => Bool.noConfusion (show false = true from hh)) | skip
                    exact ent_tau [0, 1, 2, 3, 4, 5] ⟨by (repeat' (first | exact trivial | exact rfl | exact fun _ _ => rfl | exact Or.inl rfl | refine And.intro ?_ ?_)), by (repeat' (first | exact trivial | exact rfl | exact congrArg (SV.int .i64) (Int.natCast_succ _).symm | exact congrArg (SV.int .u64) (Int.natCast_succ _).symm | refine And.intro ?_ ?_)), rfl⟩
                  · intro hx
                    simp [hah] at hx
    · have e : k = 7 := by
        have := of_decide_eq_false hlt
        simp only at this
        omega
      subst e
      have hE2 : (false, s') = (b, s2) := hE
      obtain ⟨rfl, rfl⟩ := Prod.mk.inj hE2
      (repeat' (first | exact trivial | exact fun _ => rfl | exact rfl | refine And.intro ?_ ?_))
      exact ent_tau [0, 1, 2, 3, 4, 5] ⟨by (repeat' (first | exact trivial | exact rfl | exact fun _ _ => rfl | exact Or.inl rfl | refine And.intro ?_ ?_)), by (repeat' (first | exact trivial | exact rfl | exact congrArg (SV.int .i64) (Int.natCast_succ _).symm | exact congrArg (SV.int .u64) (Int.natCast_succ _).symm | refine And.intro ?_ ?_)), rfl⟩
def pl66_11s : Plan := .eager 0 <| .eager 2 <| .alt 1 (.alt 3 (.eager 4 <| .eager 5 <| .done) .no) .no
theorem t66 (h : HD) (hv : h.Valid) (s : Bool) (S : Nat) (hS : S < 128) (hb : ∀ i, S.testBit i = true → i < h.n) :
    CallP Try.prog 66 [.agg (chI fun j => (h.ch s j : Nat)), .int .u64 S] [] (Ret (.int .i64 (h.need s (fun i => S.testBit i) : Nat)) []) := by
  have hn := hv.2.1
  have hc : ∀ j, j < 7 → h.ch s j < 128 := fun j _ => HD.ch_lt hn s j
  have hneed := HD.need_add hv s hb
  have hA : (fun i k => S.testBit k && (h.ch s i).testBit k) = Af (h.ch s) S := rfl
  rw [hA] at hneed
  refine callR (E := E) E_ok Try.func66 rfl ?_
  (repeat' (first | exact trivial | exact fun _ => rfl | exact rfl | refine And.intro ?_ ?_))
  refine loopP E_ok [2, 3, 5] (fun i : Nat => [(10, .int .i64 i)]) (fun i _ => [some (.cells (chI fun j => (h.ch s j : Nat))), some (.cells [.int .u64 S]), some (.cmap (allP (Af (h.ch s) S) (fun i => S.testBit i) i)), some (.cells [.map 2])]) (fun i => i ≤ 7) (fun i => 7 - i) 0 (Nat.zero_le _) ?_ ?_
  · exact ent_tau [0, 1, 2, 3] ⟨by (repeat' (first | exact trivial | exact rfl | exact fun _ _ => rfl | exact Or.inl rfl | refine And.intro ?_ ?_)), by (repeat' (first | exact trivial | exact rfl | exact congrArg (SV.int .i64) (Int.natCast_succ _).symm | exact congrArg (SV.int .u64) (Int.natCast_succ _).symm | refine And.intro ?_ ?_)), rfl⟩
  rintro i hi
  refine And.intro ?_ (And.intro (fun hlt => ?_) (fun hlt => ?_))
  · simp [AllP, under, gB, wB, inR_iff, IntKind.bits]
  · have hi7 : i < 7 := by
      have := of_decide_eq_true hlt
      omega
    obtain ⟨b1, hb1⟩ : ∃ b1, S.testBit i = b1 := ⟨_, rfl⟩
    have c1 : CallP Try.prog 51 [.int .u64 S, .int .i64 i] [] (Ret (.bool b1) []) := by
      rw [← hb1]
      exact t51 S (Nat.lt_trans hS (by decide)) i ⟨by omega, by omega⟩
    (repeat' (first | exact trivial | exact fun _ => rfl | exact rfl | refine And.intro ?_ ?_))
    refine c1.use [] ?_ trivial rfl
    cases b1 with
    | false =>
      have ea : allP (Af (h.ch s) S) (fun i => S.testBit i) (i + 1) = allP (Af (h.ch s) S) (fun i => S.testBit i) i := by
        simp only [allP, hb1]
      (repeat' (first | exact trivial | exact fun _ => rfl | exact rfl | refine And.intro ?_ ?_))
      all_goals first | (first | omega | exact u0 (by omega) | exact u1 (by omega) | exact u1 ⟨by omega, by omega⟩ | exact un (by omega) | exact fun hh => hh | exact fun hh => absurd hh (by decide) | exact fun hh => congrArg not hh | exact fun hh => Bool.noConfusion (show true = false from hh) | exact fun hh => Bool.noConfusion (show false = true from hh)) | skip
      intro _
      (repeat' (first | exact trivial | exact fun _ => rfl | exact rfl | refine And.intro ?_ ?_))
      all_goals first | (first | omega | exact u0 (by omega) | exact u1 (by omega) | exact u1 ⟨by omega, by omega⟩ | exact un (by omega) | exact fun hh => hh | exact fun hh => absurd hh (by decide) | exact fun hh => congrArg not hh | exact fun hh => Bool.noConfusion (show true = false from hh) | exact fun hh => Bool.noConfusion (show false = true from hh)) | skip
      refine ⟨i + 1, hi7, by omega, ?_⟩
      refine ent_tau [0, 1, 2, 3] ⟨?_, by (repeat' (first | exact trivial | exact rfl | exact congrArg (SV.int .i64) (Int.natCast_succ _).symm | exact congrArg (SV.int .u64) (Int.natCast_succ _).symm | refine And.intro ?_ ?_)), rfl⟩
      (repeat' (first | exact trivial | exact rfl | exact fun _ _ => rfl | exact Or.inl rfl | refine And.intro ?_ ?_))
      exact ea.symm
    | true =>
      have ea : allP (Af (h.ch s) S) (fun i => S.testBit i) (i + 1) = (goP (Af (h.ch s) S) 8 i (0, allP (Af (h.ch s) S) (fun i => S.testBit i) i)).2.2 := by
        simp only [allP, hb1]
      have hun : unseen (stP (0, allP (Af (h.ch s) S) (fun i => S.testBit i) i)) 7 < 8 := Nat.lt_succ_of_le (cnt_bnd _ 7)
      have c91 := t91 (h.ch s) hc S hS 8 i (0, allP (Af (h.ch s) S) (fun i => S.testBit i) i) hi7 (by decide : (0 : Nat) < 128) (allP_inv _ _ i (by omega)) hun
      (repeat' (first | exact trivial | exact fun _ => rfl | exact rfl | refine And.intro ?_ ?_))
      all_goals first | (first | omega | exact u0 (by omega) | exact u1 (by omega) | exact u1 ⟨by omega, by omega⟩ | exact un (by omega) | exact fun hh => hh | exact fun hh => absurd hh (by decide) | exact fun hh => congrArg not hh | exact fun hh => Bool.noConfusion (show true = false from hh) | exact fun hh => Bool.noConfusion (show false = true from hh)) | skip
      intro _
      (repeat' (first | exact trivial | exact fun _ => rfl | exact rfl | refine And.intro ?_ ?_))
      all_goals first | (first | omega | exact u0 (by omega) | exact u1 (by omega) | exact u1 ⟨by omega, by omega⟩ | exact un (by omega) | exact fun hh => hh | exact fun hh => absurd hh (by decide) | exact fun hh => congrArg not hh | exact fun hh => Bool.noConfusion (show true = false from hh) | exact fun hh => Bool.noConfusion (show false = true from hh)) | skip
      refine c91.use [1, 0, 4, 3, 5, 2] ?_ (by (repeat' (first | exact trivial | exact rfl | exact fun _ _ => rfl | exact fun _ _ _ _ => rfl | exact Or.inl rfl | exact Or.inr rfl | refine And.intro ?_ ?_))) rfl
      (repeat' (first | exact trivial | exact fun _ => rfl | exact rfl | refine And.intro ?_ ?_))
      all_goals first | (first | omega | exact u0 (by omega) | exact u1 (by omega) | exact u1 ⟨by omega, by omega⟩ | exact un (by omega) | exact fun hh => hh | exact fun hh => absurd hh (by decide) | exact fun hh => congrArg not hh | exact fun hh => Bool.noConfusion (show true = false from hh) | exact fun hh => Bool.noConfusion (show false = true from hh)) | skip
      refine ⟨i + 1, hi7, by omega, ?_⟩
      refine ent_tau [0, 1, 2, 3] ⟨?_, by (repeat' (first | exact trivial | exact rfl | exact congrArg (SV.int .i64) (Int.natCast_succ _).symm | exact congrArg (SV.int .u64) (Int.natCast_succ _).symm | refine And.intro ?_ ?_)), rfl⟩
      (repeat' (first | exact trivial | exact rfl | exact fun _ _ => rfl | exact Or.inl rfl | refine And.intro ?_ ?_))
      exact ea.symm
  · have e : i = 7 := by
      have := of_decide_eq_false hlt
      omega
    subst e
    have hp : pop S ≤ 7 := cnt_bnd _ 7
    (repeat' (first | exact trivial | exact fun _ => rfl | exact rfl | refine And.intro ?_ ?_))
    refine drawP E_ok [1, 3] pl66_11s (by kernel_rfl) ?_
    (repeat' (first | exact trivial | exact fun _ => rfl | exact rfl | refine And.intro ?_ ?_))
    refine (t92 S hS).use [] ?_ trivial rfl
    (repeat' (first | exact trivial | exact fun _ => rfl | exact rfl | refine And.intro ?_ ?_))
    all_goals first | (first | omega | exact u0 (by omega) | exact u1 (by omega) | exact u1 ⟨by omega, by omega⟩ | exact un (by omega) | exact fun hh => hh | exact fun hh => absurd hh (by decide) | exact fun hh => congrArg not hh | exact fun hh => Bool.noConfusion (show true = false from hh) | exact fun hh => Bool.noConfusion (show false = true from hh)) | skip
    refine ent_tau [] ⟨by (repeat' (first | exact trivial | exact rfl | exact fun _ _ => rfl | exact Or.inl rfl | refine And.intro ?_ ?_)), ⟨rfl, ?_, trivial⟩, rfl⟩
    exact congrArg (SV.int .i64) (by omega)
end Go.Proofs.Ytgofhjihkinknaa
/-
  Contracts: what a plan is, and what is asked of it; what comes of opening.
-/
namespace Go.Proofs.Ytgofhjihkinknaa
open Go Go.Sy Kuhn
set_option linter.unusedSimpArgs false
set_option maxRecDepth 100000
set_option maxHeartbeats 4000000
attribute [local irreducible] CallP CodeP Ent YieldP
attribute [local irreducible] HD.ch maskO

/-- A list of numbers that may be a plan. -/
structure PD where
  n : Nat
  p : Nat → Int
  b : Bool
  cap : Nat
def PD.F (pl : PD) (k : Nat) : List SV := [.int .i64 (pl.p k)]
def PD.ok (h : HD) (pl : PD) : Prop := pl.n = h.n ∧ ∀ k, k < pl.n → 0 ≤ pl.p k ∧ pl.p k ≤ 6
/-- What comes of opening horses. -/
def K47 (h : HD) (b : Bool) (base : SHeap) : CE → SHeap → Prop := fun ce h' =>
  (h.Valid ∧ b = true ∧ ce = .ret (HD.A h) ∧ h' = base) ∨ (¬ h.Valid ∧ ce = .panic (.iface 119 (.int .i64 1)) ∧ h' = base) ∨ (h.Valid ∧ b = false ∧ ce = .panic (.iface 119 (.int .i64 2)) ∧ h' = base)
end Go.Proofs.Ytgofhjihkinknaa
/-
  Contracts: horses are opened, with 0 captured.
-/
namespace Go.Proofs.Ytgofhjihkinknaa
open Go Go.Sy Kuhn
set_option linter.unusedSimpArgs false
set_option maxRecDepth 100000
set_option maxHeartbeats 4000000
attribute [local irreducible] CallP CodeP Ent YieldP
attribute [local irreducible] HD.ch maskO

theorem t47_0 (h : HD) (f : Nat) (hf : f = 65 ∨ f = 71) (b : Bool)
    (his : h.Valid → CallP Try.prog f ([HD.A h] ++ []) (HD.H h) (Ret (.bool b) (HD.H h))) :
    CallP Try.prog 47 [HD.A h, .fn (.func f) [] []] (HD.H h) (K47 h b (HD.H h)) := by
  refine callK (E := E) E_ok Try.func47 rfl ?_
  refine And.intro ?_ ?_
  · simp [AllP, under, gB, wB, inR_iff, IntKind.bits]
  refine (t62 _ _ _).use [] ?_ (by (repeat' (first | exact trivial | exact rfl | exact fun _ _ => rfl | exact Or.inl rfl | refine And.intro ?_ ?_))) rfl
  refine And.intro ?_ ?_
  · (repeat' (first | exact trivial | exact fun _ => rfl | exact rfl | refine And.intro ?_ ?_))
    all_goals (first | omega | exact u0 (by omega) | exact u1 (by omega) | exact u1 ⟨by omega, by omega⟩ | exact un (by omega) | exact fun hh => hh | exact fun hh => absurd hh (by decide) | exact fun hh => congrArg not hh | exact fun hh => Bool.noConfusion (show true = false from hh) | exact fun hh => Bool.noConfusion (show false = true from hh))
  refine must (fun hb => ?_) (fun hb => ?_)
  · have hb' : (0 ≤ h.pace ∧ h.pace ≤ 3) ∧ h.n ≤ 7 := by
      simp [inB, gB, wB] at hb
      omega
    obtain ⟨hP, hN⟩ := hb'
    (repeat' (first | exact trivial | exact fun _ => rfl | exact rfl | refine And.intro ?_ ?_))
    all_goals first | (first | omega | exact u0 (by omega) | exact u1 (by omega) | exact u1 ⟨by omega, by omega⟩ | exact un (by omega) | exact fun hh => hh | exact fun hh => absurd hh (by decide) | exact fun hh => congrArg not hh | exact fun hh => Bool.noConfusion (show true = false from hh) | exact fun hh => Bool.noConfusion (show false = true from hh)) | skip
    refine loopP E_ok [1, 2, 4, 19, 20] (fun i : Nat => [(21, .int .i64 i)]) (fun _ H => H) (fun i => i ≤ h.n ∧ ∀ j, j < i → h.okMv j) (fun i => h.n - i) 0 ⟨Nat.zero_le _, fun j h => by omega⟩ ?_ ?_
    · exact ent_tau [0, 1, 2] ⟨by (repeat' (first | exact trivial | exact rfl | exact fun _ _ => rfl | exact Or.inl rfl | refine And.intro ?_ ?_)), by (repeat' (first | exact trivial | exact rfl | exact congrArg (SV.int .i64) (Int.natCast_succ _).symm | exact congrArg (SV.int .u64) (Int.natCast_succ _).symm | refine And.intro ?_ ?_)), rfl⟩
    rintro i ⟨hi, hall⟩
    have ei := z1 i
    refine And.intro ?_ (And.intro (fun hlt => ?_) (fun hlt => ?_))
    · simp [AllP, under, gB, wB, inR_iff, IntKind.bits]
    · have hlt' : i < h.n := by simpa using hlt
      obtain ⟨b1, hb1⟩ : ∃ b1, inB (h.at' i) 0 200 = b1 := ⟨_, rfl⟩
      obtain ⟨b2, hb2⟩ : ∃ b2, inB (h.pl i) 0 30 = b2 := ⟨_, rfl⟩
      have c1 : CallP Try.prog 62 [.int .i64 (h.at' (0 + ((i : Nat) : Int).toNat)), .int .i64 0, .int .i64 200] [] (Ret (.bool b1) []) := by
        rw [← hb1, ei]
        exact t62 _ _ _
      have c2 : CallP Try.prog 62 [.int .i64 (h.pl (0 + ((i : Nat) : Int).toNat)), .int .i64 0, .int .i64 30] [] (Ret (.bool b2) []) := by
        rw [← hb2, ei]
        exact t62 _ _ _
      (repeat' (first | exact trivial | exact fun _ => rfl | exact rfl | refine And.intro ?_ ?_))
      all_goals first | (first | omega | exact u0 (by omega) | exact u1 (by omega) | exact u1 ⟨by omega, by omega⟩ | exact un (by omega) | exact fun hh => hh | exact fun hh => absurd hh (by decide) | exact fun hh => congrArg not hh | exact fun hh => Bool.noConfusion (show true = false from hh) | exact fun hh => Bool.noConfusion (show false = true from hh)) | skip
      refine c1.use [] ?_ trivial rfl
      cases b1 with
      | false =>
        refine And.intro ?_ (And.intro (fun hg => absurd hg (by decide)) (fun hg => ?_))
        · (repeat' (first | exact trivial | exact fun _ => rfl | exact rfl | refine And.intro ?_ ?_))
          all_goals (first | omega | exact u0 (by omega) | exact u1 (by omega) | exact u1 ⟨by omega, by omega⟩ | exact un (by omega) | exact fun hh => hh | exact fun hh => absurd hh (by decide) | exact fun hh => congrArg not hh | exact fun hh => Bool.noConfusion (show true = false from hh) | exact fun hh => Bool.noConfusion (show false = true from hh))
        (repeat' (first | exact trivial | exact fun _ => rfl | exact rfl | refine And.intro ?_ ?_))
        all_goals first | (first | omega | exact u0 (by omega) | exact u1 (by omega) | exact u1 ⟨by omega, by omega⟩ | exact un (by omega) | exact fun hh => hh | exact fun hh => absurd hh (by decide) | exact fun hh => congrArg not hh | exact fun hh => Bool.noConfusion (show true = false from hh) | exact fun hh => Bool.noConfusion (show false = true from hh)) | skip
        refine must (fun hb => ?_) (fun hb => ?_)
        · simp at hb
        · refine And.intro ?_ (And.intro ?_ ⟨_, _, .inr (.inl ⟨fun hv => ?_, rfl, rfl⟩), ?_⟩)
          · (repeat' (first | exact trivial | exact fun _ => rfl | exact rfl | refine And.intro ?_ ?_))
          · (repeat' (first | exact trivial | exact fun _ => rfl | exact rfl | refine And.intro ?_ ?_))
          · have hm := (hv.2.2 i hlt').1
            simp [inB] at hb1
            omega
          · exact ent_tau [0] ⟨by (repeat' (first | exact trivial | exact rfl | exact fun _ _ => rfl | exact Or.inl rfl | refine And.intro ?_ ?_)), by (repeat' (first | exact trivial | exact rfl | exact congrArg (SV.int .i64) (Int.natCast_succ _).symm | exact congrArg (SV.int .u64) (Int.natCast_succ _).symm | refine And.intro ?_ ?_)), rfl⟩
      | true =>
        refine And.intro ?_ (And.intro (fun hg => ?_) (fun hg => absurd hg (by decide)))
        · (repeat' (first | exact trivial | exact fun _ => rfl | exact rfl | refine And.intro ?_ ?_))
          all_goals (first | omega | exact u0 (by omega) | exact u1 (by omega) | exact u1 ⟨by omega, by omega⟩ | exact un (by omega) | exact fun hh => hh | exact fun hh => absurd hh (by decide) | exact fun hh => congrArg not hh | exact fun hh => Bool.noConfusion (show true = false from hh) | exact fun hh => Bool.noConfusion (show false = true from hh))
        refine c2.use [] ?_ trivial rfl
        (repeat' (first | exact trivial | exact fun _ => rfl | exact rfl | refine And.intro ?_ ?_))
        all_goals first | (first | omega | exact u0 (by omega) | exact u1 (by omega) | exact u1 ⟨by omega, by omega⟩ | exact un (by omega) | exact fun hh => hh | exact fun hh => absurd hh (by decide) | exact fun hh => congrArg not hh | exact fun hh => Bool.noConfusion (show true = false from hh) | exact fun hh => Bool.noConfusion (show false = true from hh)) | exact u0 (fun hh => hh) | skip
        have e1 : 0 ≤ h.at' i ∧ h.at' i ≤ 200 := inB_iff.1 hb1
        refine must (fun hb => ?_) (fun hb => ?_)
        · have hok : h.okMv i := by
            cases b2 with
            | false => simp at hb
            | true =>
              have e2 := inB_iff.1 hb2
              simp [ei] at hb
              exact ⟨e1, e2, by omega⟩
          (repeat' (first | exact trivial | exact fun _ => rfl | exact rfl | refine And.intro ?_ ?_))
          all_goals first | (first | omega | exact u0 (by omega) | exact u1 (by omega) | exact u1 ⟨by omega, by omega⟩ | exact un (by omega) | exact fun hh => hh | exact fun hh => absurd hh (by decide) | exact fun hh => congrArg not hh | exact fun hh => Bool.noConfusion (show true = false from hh) | exact fun hh => Bool.noConfusion (show false = true from hh)) | skip
          refine ⟨i + 1, ⟨hlt', fun j hj => ?_⟩, by omega, ?_⟩
          · rcases Nat.lt_or_ge j i with hji | hji
            · exact hall j hji
            · have : j = i := by omega
              subst this
              exact hok
          · exact ent_tau [0, 1, 2] ⟨by (repeat' (first | exact trivial | exact rfl | exact fun _ _ => rfl | exact Or.inl rfl | refine And.intro ?_ ?_)), by (repeat' (first | exact trivial | exact rfl | exact congrArg (SV.int .i64) (Int.natCast_succ _).symm | exact congrArg (SV.int .u64) (Int.natCast_succ _).symm | refine And.intro ?_ ?_)), rfl⟩
        · refine And.intro ?_ (And.intro ?_ ⟨_, _, .inr (.inl ⟨fun hv => ?_, rfl, rfl⟩), ?_⟩)
          · (repeat' (first | exact trivial | exact fun _ => rfl | exact rfl | refine And.intro ?_ ?_))
          · (repeat' (first | exact trivial | exact fun _ => rfl | exact rfl | refine And.intro ?_ ?_))
          · have hm := hv.2.2 i hlt'
            unfold HD.okMv at hm
            have e2 : b2 = true := by rw [← hb2]; exact inB_iff.2 hm.2.1
            rw [e2] at hb
            simp [ei] at hb
            omega
          · exact ent_tau [0] ⟨by (repeat' (first | exact trivial | exact rfl | exact fun _ _ => rfl | exact Or.inl rfl | refine And.intro ?_ ?_)), by (repeat' (first | exact trivial | exact rfl | exact congrArg (SV.int .i64) (Int.natCast_succ _).symm | exact congrArg (SV.int .u64) (Int.natCast_succ _).symm | refine And.intro ?_ ?_)), rfl⟩
    · have hiM : i = h.n := by
        have : ¬ (i < h.n) := by simpa using hlt
        omega
      subst hiM
      have hv : h.Valid := ⟨hP, hN, hall⟩
      rcases hf with rfl | rfl
      all_goals (repeat' (first | exact trivial | exact fun _ => rfl | exact rfl | refine And.intro ?_ ?_))
      all_goals first | (first | omega | exact u0 (by omega) | exact u1 (by omega) | exact u1 ⟨by omega, by omega⟩ | exact un (by omega) | exact fun hh => hh | exact fun hh => absurd hh (by decide) | exact fun hh => congrArg not hh | exact fun hh => Bool.noConfusion (show true = false from hh) | exact fun hh => Bool.noConfusion (show false = true from hh)) | skip
      all_goals refine (his hv).use [0] ?_ (by (repeat' (first | exact trivial | exact rfl | exact fun _ _ => rfl | exact fun _ _ _ _ => rfl | exact Or.inl rfl | exact Or.inr rfl | refine And.intro ?_ ?_))) rfl
      all_goals (repeat' (first | exact trivial | exact fun _ => rfl | exact rfl | refine And.intro ?_ ?_))
      all_goals first | (first | omega | exact u0 (by omega) | exact u1 (by omega) | exact u1 ⟨by omega, by omega⟩ | exact un (by omega) | exact fun hh => hh | exact fun hh => absurd hh (by decide) | exact fun hh => congrArg not hh | exact fun hh => Bool.noConfusion (show true = false from hh) | exact fun hh => Bool.noConfusion (show false = true from hh)) | skip
      all_goals refine must (fun hb => ?_) (fun hb => ?_)
      · (repeat' (first | exact trivial | exact fun _ => rfl | exact rfl | refine And.intro ?_ ?_))
        refine ⟨_, _, .inl ⟨hv, hb, rfl, rfl⟩, ?_⟩
        exact ent_tau [0] ⟨by (repeat' (first | exact trivial | exact rfl | exact fun _ _ => rfl | exact Or.inl rfl | refine And.intro ?_ ?_)), by (repeat' (first | exact trivial | exact rfl | exact congrArg (SV.int .i64) (Int.natCast_succ _).symm | exact congrArg (SV.int .u64) (Int.natCast_succ _).symm | refine And.intro ?_ ?_)), rfl⟩
      · refine And.intro ?_ ⟨_, _, .inr (.inr ⟨hv, hb, rfl, rfl⟩), ?_⟩
        · (repeat' (first | exact trivial | exact fun _ => rfl | exact rfl | refine And.intro ?_ ?_))
        · exact ent_tau [0] ⟨by (repeat' (first | exact trivial | exact rfl | exact fun _ _ => rfl | exact Or.inl rfl | refine And.intro ?_ ?_)), by (repeat' (first | exact trivial | exact rfl | exact congrArg (SV.int .i64) (Int.natCast_succ _).symm | exact congrArg (SV.int .u64) (Int.natCast_succ _).symm | refine And.intro ?_ ?_)), rfl⟩
      · (repeat' (first | exact trivial | exact fun _ => rfl | exact rfl | refine And.intro ?_ ?_))
        refine ⟨_, _, .inl ⟨hv, hb, rfl, rfl⟩, ?_⟩
        exact ent_tau [0] ⟨by (repeat' (first | exact trivial | exact rfl | exact fun _ _ => rfl | exact Or.inl rfl | refine And.intro ?_ ?_)), by (repeat' (first | exact trivial | exact rfl | exact congrArg (SV.int .i64) (Int.natCast_succ _).symm | exact congrArg (SV.int .u64) (Int.natCast_succ _).symm | refine And.intro ?_ ?_)), rfl⟩
      · refine And.intro ?_ ⟨_, _, .inr (.inr ⟨hv, hb, rfl, rfl⟩), ?_⟩
        · (repeat' (first | exact trivial | exact fun _ => rfl | exact rfl | refine And.intro ?_ ?_))
        · exact ent_tau [0] ⟨by (repeat' (first | exact trivial | exact rfl | exact fun _ _ => rfl | exact Or.inl rfl | refine And.intro ?_ ?_)), by (repeat' (first | exact trivial | exact rfl | exact congrArg (SV.int .i64) (Int.natCast_succ _).symm | exact congrArg (SV.int .u64) (Int.natCast_succ _).symm | refine And.intro ?_ ?_)), rfl⟩
  · refine And.intro ?_ ⟨_, _, .inr (.inl ⟨fun hv => ?_, rfl, rfl⟩), ?_⟩
    · (repeat' (first | exact trivial | exact fun _ => rfl | exact rfl | refine And.intro ?_ ?_))
    · have h1 := hv.1
      have h2 := hv.2.1
      simp [inB] at hb
      omega
    · exact ent_tau [0] ⟨by (repeat' (first | exact trivial | exact rfl | exact fun _ _ => rfl | exact Or.inl rfl | refine And.intro ?_ ?_)), by (repeat' (first | exact trivial | exact rfl | exact congrArg (SV.int .i64) (Int.natCast_succ _).symm | exact congrArg (SV.int .u64) (Int.natCast_succ _).symm | refine And.intro ?_ ?_)), rfl⟩
end Go.Proofs.Ytgofhjihkinknaa
/-
  Contracts: horses are opened, with 1 captured.
-/
namespace Go.Proofs.Ytgofhjihkinknaa
open Go Go.Sy Kuhn
set_option linter.unusedSimpArgs false
set_option maxRecDepth 100000
set_option maxHeartbeats 4000000
attribute [local irreducible] CallP CodeP Ent YieldP
attribute [local irreducible] HD.ch maskO

theorem t47_1 (h : HD) (c0 : Int) (f : Nat) (hf : f = 61 ∨ f = 77) (b : Bool)
    (his : h.Valid → CallP Try.prog f ([HD.A h] ++ [.ptr 1 0]) (HD.H h ++ [some (.roc [.int .i64 c0])]) (Ret (.bool b) (HD.H h ++ [some (.roc [.int .i64 c0])]))) :
    CallP Try.prog 47 [HD.A h, .fn (.func f) [] [.ptr 1 0]] (HD.H h ++ [some (.roc [.int .i64 c0])]) (K47 h b (HD.H h ++ [some (.roc [.int .i64 c0])])) := by
  refine callK (E := E) E_ok Try.func47 rfl ?_
  refine And.intro ?_ ?_
  · simp [AllP, under, gB, wB, inR_iff, IntKind.bits]
  refine (t62 _ _ _).use [] ?_ (by (repeat' (first | exact trivial | exact rfl | exact fun _ _ => rfl | exact Or.inl rfl | refine And.intro ?_ ?_))) rfl
  refine And.intro ?_ ?_
  · (repeat' (first | exact trivial | exact fun _ => rfl | exact rfl | refine And.intro ?_ ?_))
    all_goals (first | omega | exact u0 (by omega) | exact u1 (by omega) | exact u1 ⟨by omega, by omega⟩ | exact un (by omega) | exact fun hh => hh | exact fun hh => absurd hh (by decide) | exact fun hh => congrArg not hh | exact fun hh => Bool.noConfusion (show true = false from hh) | exact fun hh => Bool.noConfusion (show false = true from hh))
  refine must (fun hb => ?_) (fun hb => ?_)
  · have hb' : (0 ≤ h.pace ∧ h.pace ≤ 3) ∧ h.n ≤ 7 := by
      simp [inB, gB, wB] at hb
      omega
    obtain ⟨hP, hN⟩ := hb'
    (repeat' (first | exact trivial | exact fun _ => rfl | exact rfl | refine And.intro ?_ ?_))
    all_goals first | (first | omega | exact u0 (by omega) | exact u1 (by omega) | exact u1 ⟨by omega, by omega⟩ | exact un (by omega) | exact fun hh => hh | exact fun hh => absurd hh (by decide) | exact fun hh => congrArg not hh | exact fun hh => Bool.noConfusion (show true = false from hh) | exact fun hh => Bool.noConfusion (show false = true from hh)) | skip
    refine loopP E_ok [1, 2, 4, 19, 20] (fun i : Nat => [(21, .int .i64 i)]) (fun _ H => H) (fun i => i ≤ h.n ∧ ∀ j, j < i → h.okMv j) (fun i => h.n - i) 0 ⟨Nat.zero_le _, fun j h => by omega⟩ ?_ ?_
    · exact ent_tau [0, 1, 2, 3] ⟨by (repeat' (first | exact trivial | exact rfl | exact fun _ _ => rfl | exact Or.inl rfl | refine And.intro ?_ ?_)), by (repeat' (first | exact trivial | exact rfl | exact congrArg (SV.int .i64) (Int.natCast_succ _).symm | exact congrArg (SV.int .u64) (Int.natCast_succ _).symm | refine And.intro ?_ ?_)), rfl⟩
    rintro i ⟨hi, hall⟩
    have ei := z1 i
    refine And.intro ?_ (And.intro (fun hlt => ?_) (fun hlt => ?_))
    · simp [AllP, under, gB, wB, inR_iff, IntKind.bits]
    · have hlt' : i < h.n := by simpa using hlt
      obtain ⟨b1, hb1⟩ : ∃ b1, inB (h.at' i) 0 200 = b1 := ⟨_, rfl⟩
      obtain ⟨b2, hb2⟩ : ∃ b2, inB (h.pl i) 0 30 = b2 := ⟨_, rfl⟩
      have c1 : CallP Try.prog 62 [.int .i64 (h.at' (0 + ((i : Nat) : Int).toNat)), .int .i64 0, .int .i64 200] [] (Ret (.bool b1) []) := by
        rw [← hb1, ei]
        exact t62 _ _ _
      have c2 : CallP Try.prog 62 [.int .i64 (h.pl (0 + ((i : Nat) : Int).toNat)), .int .i64 0, .int .i64 30] [] (Ret (.bool b2) []) := by
        rw [← hb2, ei]
        exact t62 _ _ _
      (repeat' (first | exact trivial | exact fun _ => rfl | exact rfl | refine And.intro ?_ ?_))
      all_goals first | (first | omega | exact u0 (by omega) | exact u1 (by omega) | exact u1 ⟨by omega, by omega⟩ | exact un (by omega) | exact fun hh => hh | exact fun hh => absurd hh (by decide) | exact fun hh => congrArg not hh | exact fun hh => Bool.noConfusion (show true = false from hh) | exact fun hh => Bool.noConfusion (show false = true from hh)) | skip
      refine c1.use [] ?_ trivial rfl
      cases b1 with
      | false =>
        refine And.intro ?_ (And.intro (fun hg => absurd hg (by decide)) (fun hg => ?_))
        · (repeat' (first | exact trivial | exact fun _ => rfl | exact rfl | refine And.intro ?_ ?_))
          all_goals (first | omega | exact u0 (by omega) | exact u1 (by omega) | exact u1 ⟨by omega, by omega⟩ | exact un (by omega) | exact fun hh => hh | exact fun hh => absurd hh (by decide) | exact fun hh => congrArg not hh | exact fun hh => Bool.noConfusion (show true = false from hh) | exact fun hh => Bool.noConfusion (show false = true from hh))
        (repeat' (first | exact trivial | exact fun _ => rfl | exact rfl | refine And.intro ?_ ?_))
        all_goals first | (first | omega | exact u0 (by omega) | exact u1 (by omega) | exact u1 ⟨by omega, by omega⟩ | exact un (by omega) | exact fun hh => hh | exact fun hh => absurd hh (by decide) | exact fun hh => congrArg not hh | exact fun hh => Bool.noConfusion (show true = false from hh) | exact fun hh => Bool.noConfusion (show false = true from hh)) | skip
        refine must (fun hb => ?_) (fun hb => ?_)
        · simp at hb
        · refine And.intro ?_ (And.intro ?_ ⟨_, _, .inr (.inl ⟨fun hv => ?_, rfl, rfl⟩), ?_⟩)
          · (repeat' (first | exact trivial | exact fun _ => rfl | exact rfl | refine And.intro ?_ ?_))
          · (repeat' (first | exact trivial | exact fun _ => rfl | exact rfl | refine And.intro ?_ ?_))
          · have hm := (hv.2.2 i hlt').1
            simp [inB] at hb1
            omega
          · exact ent_tau [0, 1] ⟨by (repeat' (first | exact trivial | exact rfl | exact fun _ _ => rfl | exact Or.inl rfl | refine And.intro ?_ ?_)), by (repeat' (first | exact trivial | exact rfl | exact congrArg (SV.int .i64) (Int.natCast_succ _).symm | exact congrArg (SV.int .u64) (Int.natCast_succ _).symm | refine And.intro ?_ ?_)), rfl⟩
      | true =>
        refine And.intro ?_ (And.intro (fun hg => ?_) (fun hg => absurd hg (by decide)))
        · (repeat' (first | exact trivial | exact fun _ => rfl | exact rfl | refine And.intro ?_ ?_))
          all_goals (first | omega | exact u0 (by omega) | exact u1 (by omega) | exact u1 ⟨by omega, by omega⟩ | exact un (by omega) | exact fun hh => hh | exact fun hh => absurd hh (by decide) | exact fun hh => congrArg not hh | exact fun hh => Bool.noConfusion (show true = false from hh) | exact fun hh => Bool.noConfusion (show false = true from hh))
        refine c2.use [] ?_ trivial rfl
        (repeat' (first | exact trivial | exact fun _ => rfl | exact rfl | refine And.intro ?_ ?_))
        all_goals first | (first | omega | exact u0 (by omega) | exact u1 (by omega) | exact u1 ⟨by omega, by omega⟩ | exact un (by omega) | exact fun hh => hh | exact fun hh => absurd hh (by decide) | exact fun hh => congrArg not hh | exact fun hh => Bool.noConfusion (show true = false from hh) | exact fun hh => Bool.noConfusion (show false = true from hh)) | exact u0 (fun hh => hh) | skip
        have e1 : 0 ≤ h.at' i ∧ h.at' i ≤ 200 := inB_iff.1 hb1
        refine must (fun hb => ?_) (fun hb => ?_)
        · have hok : h.okMv i := by
            cases b2 with
            | false => simp at hb
            | true =>
              have e2 := inB_iff.1 hb2
              simp [ei] at hb
              exact ⟨e1, e2, by omega⟩
          (repeat' (first | exact trivial | exact fun _ => rfl | exact rfl | refine And.intro ?_ ?_))
          all_goals first | (first | omega | exact u0 (by omega) | exact u1 (by omega) | exact u1 ⟨by omega, by omega⟩ | exact un (by omega) | exact fun hh => hh | exact fun hh => absurd hh (by decide) | exact fun hh => congrArg not hh | exact fun hh => Bool.noConfusion (show true = false from hh) | exact fun hh => Bool.noConfusion (show false = true from hh)) | skip
          refine ⟨i + 1, ⟨hlt', fun j hj => ?_⟩, by omega, ?_⟩
          · rcases Nat.lt_or_ge j i with hji | hji
            · exact hall j hji
            · have : j = i := by omega
              subst this
              exact hok
          · exact ent_tau [0, 1, 2, 3] ⟨by (repeat' (first | exact trivial | exact rfl | exact fun _ _ => rfl | exact Or.inl rfl | refine And.intro ?_ ?_)), by (repeat' (first | exact trivial | exact rfl | exact congrArg (SV.int .i64) (Int.natCast_succ _).symm | exact congrArg (SV.int .u64) (Int.natCast_succ _).symm | refine And.intro ?_ ?_)), rfl⟩
        · refine And.intro ?_ (And.intro ?_ ⟨_, _, .inr (.inl ⟨fun hv => ?_, rfl, rfl⟩), ?_⟩)
          · (repeat' (first | exact trivial | exact fun _ => rfl | exact rfl | refine And.intro ?_ ?_))
          · (repeat' (first | exact trivial | exact fun _ => rfl | exact rfl | refine And.intro ?_ ?_))
          · have hm := hv.2.2 i hlt'
            unfold HD.okMv at hm
            have e2 : b2 = true := by rw [← hb2]; exact inB_iff.2 hm.2.1
            rw [e2] at hb
            simp [ei] at hb
            omega
          · exact ent_tau [0, 1] ⟨by (repeat' (first | exact trivial | exact rfl | exact fun _ _ => rfl | exact Or.inl rfl | refine And.intro ?_ ?_)), by (repeat' (first | exact trivial | exact rfl | exact congrArg (SV.int .i64) (Int.natCast_succ _).symm | exact congrArg (SV.int .u64) (Int.natCast_succ _).symm | refine And.intro ?_ ?_)), rfl⟩
    · have hiM : i = h.n := by
        have : ¬ (i < h.n) := by simpa using hlt
        omega
      subst hiM
      have hv : h.Valid := ⟨hP, hN, hall⟩
      rcases hf with rfl | rfl
      all_goals (repeat' (first | exact trivial | exact fun _ => rfl | exact rfl | refine And.intro ?_ ?_))
      all_goals first | (first | omega | exact u0 (by omega) | exact u1 (by omega) | exact u1 ⟨by omega, by omega⟩ | exact un (by omega) | exact fun hh => hh | exact fun hh => absurd hh (by decide) | exact fun hh => congrArg not hh | exact fun hh => Bool.noConfusion (show true = false from hh) | exact fun hh => Bool.noConfusion (show false = true from hh)) | skip
      all_goals refine (his hv).use [0, 1] ?_ (by (repeat' (first | exact trivial | exact rfl | exact fun _ _ => rfl | exact fun _ _ _ _ => rfl | exact Or.inl rfl | exact Or.inr rfl | refine And.intro ?_ ?_))) rfl
      all_goals (repeat' (first | exact trivial | exact fun _ => rfl | exact rfl | refine And.intro ?_ ?_))
      all_goals first | (first | omega | exact u0 (by omega) | exact u1 (by omega) | exact u1 ⟨by omega, by omega⟩ | exact un (by omega) | exact fun hh => hh | exact fun hh => absurd hh (by decide) | exact fun hh => congrArg not hh | exact fun hh => Bool.noConfusion (show true = false from hh) | exact fun hh => Bool.noConfusion (show false = true from hh)) | skip
      all_goals refine must (fun hb => ?_) (fun hb => ?_)
      · (repeat' (first | exact trivial | exact fun _ => rfl | exact rfl | refine And.intro ?_ ?_))
        refine ⟨_, _, .inl ⟨hv, hb, rfl, rfl⟩, ?_⟩
        exact ent_tau [0, 1] ⟨by (repeat' (first | exact trivial | exact rfl | exact fun _ _ => rfl | exact Or.inl rfl | refine And.intro ?_ ?_)), by (repeat' (first | exact trivial | exact rfl | exact congrArg (SV.int .i64) (Int.natCast_succ _).symm | exact congrArg (SV.int .u64) (Int.natCast_succ _).symm | refine And.intro ?_ ?_)), rfl⟩
      · refine And.intro ?_ ⟨_, _, .inr (.inr ⟨hv, hb, rfl, rfl⟩), ?_⟩
        · (repeat' (first | exact trivial | exact fun _ => rfl | exact rfl | refine And.intro ?_ ?_))
        · exact ent_tau [0, 1] ⟨by (repeat' (first | exact trivial | exact rfl | exact fun _ _ => rfl | exact Or.inl rfl | refine And.intro ?_ ?_)), by (repeat' (first | exact trivial | exact rfl | exact congrArg (SV.int .i64) (Int.natCast_succ _).symm | exact congrArg (SV.int .u64) (Int.natCast_succ _).symm | refine And.intro ?_ ?_)), rfl⟩
      · (repeat' (first | exact trivial | exact fun _ => rfl | exact rfl | refine And.intro ?_ ?_))
        refine ⟨_, _, .inl ⟨hv, hb, rfl, rfl⟩, ?_⟩
        exact ent_tau [0, 1] ⟨by (repeat' (first | exact trivial | exact rfl | exact fun _ _ => rfl | exact Or.inl rfl | refine And.intro ?_ ?_)), by (repeat' (first | exact trivial | exact rfl | exact congrArg (SV.int .i64) (Int.natCast_succ _).symm | exact congrArg (SV.int .u64) (Int.natCast_succ _).symm | refine And.intro ?_ ?_)), rfl⟩
      · refine And.intro ?_ ⟨_, _, .inr (.inr ⟨hv, hb, rfl, rfl⟩), ?_⟩
        · (repeat' (first | exact trivial | exact fun _ => rfl | exact rfl | refine And.intro ?_ ?_))
        · exact ent_tau [0, 1] ⟨by (repeat' (first | exact trivial | exact rfl | exact fun _ _ => rfl | exact Or.inl rfl | refine And.intro ?_ ?_)), by (repeat' (first | exact trivial | exact rfl | exact congrArg (SV.int .i64) (Int.natCast_succ _).symm | exact congrArg (SV.int .u64) (Int.natCast_succ _).symm | refine And.intro ?_ ?_)), rfl⟩
  · refine And.intro ?_ ⟨_, _, .inr (.inl ⟨fun hv => ?_, rfl, rfl⟩), ?_⟩
    · (repeat' (first | exact trivial | exact fun _ => rfl | exact rfl | refine And.intro ?_ ?_))
    · have h1 := hv.1
      have h2 := hv.2.1
      simp [inB] at hb
      omega
    · exact ent_tau [0, 1] ⟨by (repeat' (first | exact trivial | exact rfl | exact fun _ _ => rfl | exact Or.inl rfl | refine And.intro ?_ ?_)), by (repeat' (first | exact trivial | exact rfl | exact congrArg (SV.int .i64) (Int.natCast_succ _).symm | exact congrArg (SV.int .u64) (Int.natCast_succ _).symm | refine And.intro ?_ ?_)), rfl⟩
end Go.Proofs.Ytgofhjihkinknaa
