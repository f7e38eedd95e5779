/-
  Parts: R15, V7, S1, S2.
-/
import Derived.Test.YtioajogaghgipaaN31
import Derived.Test.YtioajogaghgipaaN30
import Derived.Test.YtioajogaghgipaaN22
import Derived.Test.YtioajogaghgipaaN26
set_option linter.unusedVariables false
/-
 Contract of the document: Clash.
-/
namespace Go.Proofs.Ytioajogaghgipaa
open Go Go.Sy Tic
set_option linter.unusedSimpArgs false
set_option maxRecDepth 100000
set_option maxHeartbeats 4000000
attribute [local irreducible] CallP CodeP Ent YieldP
set_option maxHeartbeats 16000000
-- fast: YtioajogaghgipaaDd

theorem trl_bc (t : TK) (b : Bool) (c : Nat) : ({ t with b := b, cap := c } : TK).trl = t.trl := by
 unfold TK.trl
 rw [go_bc]
theorem can_n {t : TK} {S : Nat} (h : (t.only S).trl = []) : t.can S = false := by
 unfold TK.can
 rw [trs_trl, h]
 rfl
theorem can_y {t : TK} {S : Nat} (h : (t.only S).trl ≠ []) : t.can S = true := by
 unfold TK.can
 rw [trs_trl]
 cases hl : (t.only S).trl with
 | nil => exact absurd hl h
 | cons x l => rfl
theorem step_y {t : TK} {S : Nat} (h1 : TK.pop S < TK.pop (t.clashB S)) (h2 : t.can S = false) : t.clashB (S + 1) = S := by
 rw [TK.clashB]
 unfold TK.better
 rw [h2, decide_eq_true h1]
 rfl
theorem step_n {t : TK} {S : Nat} (h : ¬ TK.pop S < TK.pop (t.clashB S) ∨ t.can S = true) : t.clashB (S + 1) = t.clashB S := by
 rw [TK.clashB]
 unfold TK.better
 rcases h with h | h
 ·rw [decide_eq_false h, Bool.and_false]
  rfl
 ·rw [h]
  rfl
theorem clashB_lt (t : TK) : ∀ S, S ≤ 2 ^ t.n → t.clashB S < 2 ^ t.n
 | 0, _ => by
  have := Nat.two_pow_pos t.n
  show 2 ^ t.n - 1 < 2 ^ t.n
  omega
 | S + 1, h => by
  have := clashB_lt t S (by omega)
  rw [TK.clashB]
  split
  ·omega
  ·exact this
theorem t31 (t : TK) (hn : t.n ≤ 1000000) : CallP Try.prog 31 [TA t] (TH t) (Ret (.tup [.int .i64 (claT t).1, .int .i64 (claT t).2]) (TH t)) := by
 have c40 := t40 t hn
 by_cases hv : t.Valid
 ·have hn5 := hv.2.1
  have hh4 := hv.1
  rw [vb_yes hv] at c40
  have c64 := t64 t.n (by omega)
  have pn : 2 ^ t.n ≤ 2 ^ 5 := Nat.pow_le_pow_right (by decide) hn5
  have pp := Nat.two_pow_pos t.n
  by_cases hne : t.trl = []
  ·rw [cla_is hv (trl_nil.2 hne)]
   have e0 : ((2 ^ t.n : Nat) : Int) - 1 = ((2 ^ t.n - 1 : Nat) : Int) := by omega
   refine callR (E := E) E_ok Try.func31 rfl ?_
   (repeat' first|exact aq|refine aN ?_ ?_|exact trivial)
   refine c40.use [0] ?_ (by (repeat' first|exact fp|refine aN ?_ ?_)) rfl
   all_goals (repeat' first|exact aq|refine aN ?_ ?_|exact trivial)
   all_goals first | exact dd | skip
   all_goals intro h1
   all_goals first | exact absurd h1 (by decide) | (cases h1; done) | skip
   (repeat' first|exact aq|refine aN ?_ ?_|exact trivial)
   all_goals first | exact dd | skip
   refine c64.use [] ?_ (by (repeat' first|exact fp|refine aN ?_ ?_)) rfl
   (repeat' first|exact aq|refine aN ?_ ?_|exact trivial)
   all_goals first | exact dd | skip
   refine CallP.frameH (t92 hv (trl_len hv)) [0] (by (repeat' first|exact fp|refine aN ?_ ?_)) rfl ?_
   rw [hne]
   rintro ce h' ⟨s, cO, cp, cq, _, k2, k3, rfl, rfl⟩
   cases s with
   | true =>
    refine ⟨rfl, ?_⟩
    all_goals (repeat' first|exact aq|refine aN ?_ ?_|exact trivial)
    all_goals first | exact dd | skip
    all_goals intro h2
    all_goals first | exact absurd h2 (by decide) | (cases h2; done) | skip
    (repeat' first|exact aq|refine aN ?_ ?_|exact trivial)
    all_goals first | exact dd | skip
    refine loopP E_ok [1, 4] (fun S : Nat => [(5, .int .i64 (t.clashB S : Nat)), (6, .int .i64 S)]) (fun _ _ => [some (.roa 5 t.n (TF t)), some (.cells (tb t))]) (fun S => S ≤ 2 ^ t.n) (fun S => 2 ^ t.n - S) 0 (Nat.zero_le _) ?_ ?_
    ·refine ent_tau [0, 1] ⟨by (repeat' first|exact fp|refine aN ?_ ?_), ?_, rfl⟩
     (repeat' first|exact tm|refine aN ?_ ?_)
     exact congrArg (SV.int .i64) e0
    rintro S hS
    have hcb := clashB_lt t S hS
    refine And.intro ?_ (And.intro (fun hc => ?_) (fun hc => ?_))
    ·(repeat' first|exact aq|refine aN ?_ ?_|exact trivial)
    ·have hS' : S < 2 ^ t.n := by
      have := of_decide_eq_true hc
      omega
     have hT := only_valid hv S
     have ca := t38 S (by omega)
     have cb := t38 (t.clashB S) (by omega)
     by_cases hlt : TK.pop S < TK.pop (t.clashB S)
     ·have d1 : decide (((TK.pop S : Nat) : Int) < ((TK.pop (t.clashB S) : Nat) : Int)) = true := decide_eq_true (by omega)
      (repeat' first|exact aq|refine aN ?_ ?_|exact trivial)
      refine ca.use [] ?_ (by (repeat' first|exact fp|refine aN ?_ ?_)) rfl
      (repeat' first|exact aq|refine aN ?_ ?_|exact trivial)
      refine cb.use [] ?_ (by (repeat' first|exact fp|refine aN ?_ ?_)) rfl
      all_goals (repeat' first|exact aq|refine aN ?_ ?_|exact trivial)
      all_goals first | exact dd | skip
      all_goals intro h3
      all_goals first | (exfalso; (try rw [d1] at h3); exact Bool.noConfusion (show true = false from h3)) | (exfalso; (try rw [d1] at h3); exact Bool.noConfusion (show false = true from h3)) | skip
      (repeat' first|exact aq|refine aN ?_ ?_|exact trivial)
      refine CallP.frameH (t44 t hn5 S (by omega)) [0] (by (repeat' first|exact fp|refine aN ?_ ?_)) rfl ?_
      rintro ce h' (⟨h0, rfl, rfl⟩ | ⟨h0, c, hcc, rfl, rfl⟩)
      ·refine ⟨rfl, ?_⟩
       have c92 := t92 (t := { t.only S with b := false, cap := 0 }) (valid_bc false 0 hT) (trl_len (valid_bc false 0 hT))
       rw [trl_bc] at c92
       all_goals (repeat' first|exact aq|refine aN ?_ ?_|exact trivial)
       all_goals first | exact dd | skip
       all_goals intro h5
       all_goals first | (exfalso; (try rw [d1] at h5); exact Bool.noConfusion (show true = false from h5)) | (exfalso; (try rw [d1] at h5); exact Bool.noConfusion (show false = true from h5)) | skip
       (repeat' first|exact aq|refine aN ?_ ?_|exact trivial)
       refine CallP.argsD (args' := [.agg [.int .i64 t.huts, .osl false 2 5 (t.only S).n 0]]) (fun η => by rw [h0]; simp [denL, den]) ?_
       refine CallP.pre (entAlias (i := 0) rfl 5 (TF (t.only S))) ?_
       refine CallP.frameH c92 [2] (by (repeat' first|exact fp|refine aN ?_ ?_); all_goals exact h0.symm) rfl ?_
       rintro ce h' ⟨s, cO, cp, cq, _, k2, k3, rfl, rfl⟩
       cases s with
       | true =>
        by_cases hw : (t.only S).trl = []
        ·have d2 : decide ((((t.only S).trl.length : Nat) : Int) = 0) = true := decide_eq_true (by rw [hw]; rfl)
         have st := step_y hlt (can_n hw)
         refine ⟨rfl, ?_⟩
         (repeat' first|exact aq|refine aN ?_ ?_|exact trivial)
         all_goals (repeat' first|exact aq|refine aN ?_ ?_|exact trivial)
         all_goals first | exact dd | skip
         all_goals intro h4
         all_goals first | (exfalso; (try rw [d1] at h4); (try rw [d2] at h4); exact Bool.noConfusion (show true = false from h4)) | (exfalso; (try rw [d1] at h4); (try rw [d2] at h4); exact Bool.noConfusion (show false = true from h4)) | skip
         (repeat' first|exact aq|refine aN ?_ ?_|exact trivial)
         all_goals first | exact dd | skip
         refine ⟨S + 1, by omega, by omega, ?_⟩
         refine ent_tau [0, 1] ⟨by (repeat' first|exact fp|refine aN ?_ ?_), ?_, rfl⟩
         (repeat' first|exact tm|refine aN ?_ ?_)
         exact congrArg (fun z : Nat => SV.int .i64 z) st.symm
        ·have d2 : decide ((((t.only S).trl.length : Nat) : Int) = 0) = false := decide_eq_false (by have := List.length_pos_iff.2 hw; omega)
         have st := step_n (.inr (can_y hw))
         refine ⟨rfl, ?_⟩
         (repeat' first|exact aq|refine aN ?_ ?_|exact trivial)
         all_goals (repeat' first|exact aq|refine aN ?_ ?_|exact trivial)
         all_goals first | exact dd | skip
         all_goals intro h4
         all_goals first | (exfalso; (try rw [d1] at h4); (try rw [d2] at h4); exact Bool.noConfusion (show true = false from h4)) | (exfalso; (try rw [d1] at h4); (try rw [d2] at h4); exact Bool.noConfusion (show false = true from h4)) | skip
         (repeat' first|exact aq|refine aN ?_ ?_|exact trivial)
         all_goals first | exact dd | skip
         refine ⟨S + 1, by omega, by omega, ?_⟩
         refine ent_tau [0, 1] ⟨by (repeat' first|exact fp|refine aN ?_ ?_), ?_, rfl⟩
         (repeat' first|exact tm|refine aN ?_ ?_)
         exact congrArg (fun z : Nat => SV.int .i64 z) st.symm
       | false =>
        have hw : (t.only S).trl = [] := k2 rfl
        have st := step_y hlt (can_n hw)
        refine ⟨rfl, ?_⟩
        (repeat' first|exact aq|refine aN ?_ ?_|exact trivial)
        all_goals (repeat' first|exact aq|refine aN ?_ ?_|exact trivial)
        all_goals first | exact dd | skip
        all_goals intro h4
        all_goals first | (exfalso; (try rw [d1] at h4); exact Bool.noConfusion (show true = false from h4)) | (exfalso; (try rw [d1] at h4); exact Bool.noConfusion (show false = true from h4)) | skip
        (repeat' first|exact aq|refine aN ?_ ?_|exact trivial)
        all_goals first | exact dd | skip
        refine ⟨S + 1, by omega, by omega, ?_⟩
        refine ent_tau [0, 1] ⟨by (repeat' first|exact fp|refine aN ?_ ?_), ?_, rfl⟩
        (repeat' first|exact tm|refine aN ?_ ?_)
        exact congrArg (fun z : Nat => SV.int .i64 z) st.symm
      ·refine ⟨rfl, ?_⟩
       have c92 := t92 (t := { t.only S with b := true, cap := c }) (valid_bc true c hT) (trl_len (valid_bc true c hT))
       rw [trl_bc] at c92
       all_goals (repeat' first|exact aq|refine aN ?_ ?_|exact trivial)
       all_goals first | exact dd | skip
       all_goals intro h5
       all_goals first | (exfalso; (try rw [d1] at h5); exact Bool.noConfusion (show true = false from h5)) | (exfalso; (try rw [d1] at h5); exact Bool.noConfusion (show false = true from h5)) | skip
       (repeat' first|exact aq|refine aN ?_ ?_|exact trivial)
       refine CallP.argsD (args' := [.agg [.int .i64 t.huts, .osl true 2 5 (t.only S).n c]]) (fun η => by simp [denL, den]) ?_
       refine CallP.frameH c92 [2] (by (repeat' first|exact fp|refine aN ?_ ?_)) rfl ?_
       rintro ce h' ⟨s, cO, cp, cq, _, k2, k3, rfl, rfl⟩
       cases s with
       | true =>
        by_cases hw : (t.only S).trl = []
        ·have d2 : decide ((((t.only S).trl.length : Nat) : Int) = 0) = true := decide_eq_true (by rw [hw]; rfl)
         have st := step_y hlt (can_n hw)
         refine ⟨rfl, ?_⟩
         (repeat' first|exact aq|refine aN ?_ ?_|exact trivial)
         all_goals (repeat' first|exact aq|refine aN ?_ ?_|exact trivial)
         all_goals first | exact dd | skip
         all_goals intro h4
         all_goals first | (exfalso; (try rw [d1] at h4); (try rw [d2] at h4); exact Bool.noConfusion (show true = false from h4)) | (exfalso; (try rw [d1] at h4); (try rw [d2] at h4); exact Bool.noConfusion (show false = true from h4)) | skip
         (repeat' first|exact aq|refine aN ?_ ?_|exact trivial)
         all_goals first | exact dd | skip
         refine ⟨S + 1, by omega, by omega, ?_⟩
         refine ent_tau [0, 1] ⟨by (repeat' first|exact fp|refine aN ?_ ?_), ?_, rfl⟩
         (repeat' first|exact tm|refine aN ?_ ?_)
         exact congrArg (fun z : Nat => SV.int .i64 z) st.symm
        ·have d2 : decide ((((t.only S).trl.length : Nat) : Int) = 0) = false := decide_eq_false (by have := List.length_pos_iff.2 hw; omega)
         have st := step_n (.inr (can_y hw))
         refine ⟨rfl, ?_⟩
         (repeat' first|exact aq|refine aN ?_ ?_|exact trivial)
         all_goals (repeat' first|exact aq|refine aN ?_ ?_|exact trivial)
         all_goals first | exact dd | skip
         all_goals intro h4
         all_goals first | (exfalso; (try rw [d1] at h4); (try rw [d2] at h4); exact Bool.noConfusion (show true = false from h4)) | (exfalso; (try rw [d1] at h4); (try rw [d2] at h4); exact Bool.noConfusion (show false = true from h4)) | skip
         (repeat' first|exact aq|refine aN ?_ ?_|exact trivial)
         all_goals first | exact dd | skip
         refine ⟨S + 1, by omega, by omega, ?_⟩
         refine ent_tau [0, 1] ⟨by (repeat' first|exact fp|refine aN ?_ ?_), ?_, rfl⟩
         (repeat' first|exact tm|refine aN ?_ ?_)
         exact congrArg (fun z : Nat => SV.int .i64 z) st.symm
       | false =>
        have hw : (t.only S).trl = [] := k2 rfl
        have st := step_y hlt (can_n hw)
        refine ⟨rfl, ?_⟩
        (repeat' first|exact aq|refine aN ?_ ?_|exact trivial)
        all_goals (repeat' first|exact aq|refine aN ?_ ?_|exact trivial)
        all_goals first | exact dd | skip
        all_goals intro h4
        all_goals first | (exfalso; (try rw [d1] at h4); exact Bool.noConfusion (show true = false from h4)) | (exfalso; (try rw [d1] at h4); exact Bool.noConfusion (show false = true from h4)) | skip
        (repeat' first|exact aq|refine aN ?_ ?_|exact trivial)
        all_goals first | exact dd | skip
        refine ⟨S + 1, by omega, by omega, ?_⟩
        refine ent_tau [0, 1] ⟨by (repeat' first|exact fp|refine aN ?_ ?_), ?_, rfl⟩
        (repeat' first|exact tm|refine aN ?_ ?_)
        exact congrArg (fun z : Nat => SV.int .i64 z) st.symm
     ·have d1 : decide (((TK.pop S : Nat) : Int) < ((TK.pop (t.clashB S) : Nat) : Int)) = false := decide_eq_false (by omega)
      have st := step_n (.inl hlt)
      (repeat' first|exact aq|refine aN ?_ ?_|exact trivial)
      refine ca.use [] ?_ (by (repeat' first|exact fp|refine aN ?_ ?_)) rfl
      (repeat' first|exact aq|refine aN ?_ ?_|exact trivial)
      refine cb.use [] ?_ (by (repeat' first|exact fp|refine aN ?_ ?_)) rfl
      all_goals (repeat' first|exact aq|refine aN ?_ ?_|exact trivial)
      all_goals first | exact dd | skip
      all_goals intro h3
      all_goals first | (exfalso; (try rw [d1] at h3); exact Bool.noConfusion (show true = false from h3)) | (exfalso; (try rw [d1] at h3); exact Bool.noConfusion (show false = true from h3)) | skip
      all_goals (repeat' first|exact aq|refine aN ?_ ?_|exact trivial)
      all_goals first | exact dd | skip
      all_goals intro h4
      all_goals first | (exfalso; (try rw [d1] at h4); exact Bool.noConfusion (show true = false from h4)) | (exfalso; (try rw [d1] at h4); exact Bool.noConfusion (show false = true from h4)) | skip
      all_goals (repeat' first|exact aq|refine aN ?_ ?_|exact trivial)
      all_goals first | exact dd | skip
      all_goals intro h5
      all_goals first | (exfalso; (try rw [d1] at h5); exact Bool.noConfusion (show true = false from h5)) | (exfalso; (try rw [d1] at h5); exact Bool.noConfusion (show false = true from h5)) | skip
      (repeat' first|exact aq|refine aN ?_ ?_|exact trivial)
      all_goals first | exact dd | skip
      refine ⟨S + 1, by omega, by omega, ?_⟩
      refine ent_tau [0, 1] ⟨by (repeat' first|exact fp|refine aN ?_ ?_), ?_, rfl⟩
      (repeat' first|exact tm|refine aN ?_ ?_)
      exact congrArg (fun z : Nat => SV.int .i64 z) st.symm
    ·obtain rfl : S = 2 ^ t.n := by
      have := of_decide_eq_false hc
      omega
     (repeat' first|exact aq|refine aN ?_ ?_|exact trivial)
     exact ent_tau [0] ⟨by (repeat' first|exact fp|refine aN ?_ ?_), by (repeat' first|exact tm|refine aN ?_ ?_), rfl⟩
   | false =>
    refine ⟨rfl, ?_⟩
    all_goals (repeat' first|exact aq|refine aN ?_ ?_|exact trivial)
    all_goals first | exact dd | skip
    all_goals intro h2
    all_goals first | exact absurd h2 (by decide) | (cases h2; done) | skip
    (repeat' first|exact aq|refine aN ?_ ?_|exact trivial)
    all_goals first | exact dd | skip
    refine loopP E_ok [1, 4] (fun S : Nat => [(5, .int .i64 (t.clashB S : Nat)), (6, .int .i64 S)]) (fun _ _ => [some (.roa 5 t.n (TF t)), some (.cells (tb t))]) (fun S => S ≤ 2 ^ t.n) (fun S => 2 ^ t.n - S) 0 (Nat.zero_le _) ?_ ?_
    ·refine ent_tau [0, 1] ⟨by (repeat' first|exact fp|refine aN ?_ ?_), ?_, rfl⟩
     (repeat' first|exact tm|refine aN ?_ ?_)
     exact congrArg (SV.int .i64) e0
    rintro S hS
    have hcb := clashB_lt t S hS
    refine And.intro ?_ (And.intro (fun hc => ?_) (fun hc => ?_))
    ·(repeat' first|exact aq|refine aN ?_ ?_|exact trivial)
    ·have hS' : S < 2 ^ t.n := by
      have := of_decide_eq_true hc
      omega
     have hT := only_valid hv S
     have ca := t38 S (by omega)
     have cb := t38 (t.clashB S) (by omega)
     by_cases hlt : TK.pop S < TK.pop (t.clashB S)
     ·have d1 : decide (((TK.pop S : Nat) : Int) < ((TK.pop (t.clashB S) : Nat) : Int)) = true := decide_eq_true (by omega)
      (repeat' first|exact aq|refine aN ?_ ?_|exact trivial)
      refine ca.use [] ?_ (by (repeat' first|exact fp|refine aN ?_ ?_)) rfl
      (repeat' first|exact aq|refine aN ?_ ?_|exact trivial)
      refine cb.use [] ?_ (by (repeat' first|exact fp|refine aN ?_ ?_)) rfl
      all_goals (repeat' first|exact aq|refine aN ?_ ?_|exact trivial)
      all_goals first | exact dd | skip
      all_goals intro h3
      all_goals first | (exfalso; (try rw [d1] at h3); exact Bool.noConfusion (show true = false from h3)) | (exfalso; (try rw [d1] at h3); exact Bool.noConfusion (show false = true from h3)) | skip
      (repeat' first|exact aq|refine aN ?_ ?_|exact trivial)
      refine CallP.frameH (t44 t hn5 S (by omega)) [0] (by (repeat' first|exact fp|refine aN ?_ ?_)) rfl ?_
      rintro ce h' (⟨h0, rfl, rfl⟩ | ⟨h0, c, hcc, rfl, rfl⟩)
      ·refine ⟨rfl, ?_⟩
       have c92 := t92 (t := { t.only S with b := false, cap := 0 }) (valid_bc false 0 hT) (trl_len (valid_bc false 0 hT))
       rw [trl_bc] at c92
       all_goals (repeat' first|exact aq|refine aN ?_ ?_|exact trivial)
       all_goals first | exact dd | skip
       all_goals intro h5
       all_goals first | (exfalso; (try rw [d1] at h5); exact Bool.noConfusion (show true = false from h5)) | (exfalso; (try rw [d1] at h5); exact Bool.noConfusion (show false = true from h5)) | skip
       (repeat' first|exact aq|refine aN ?_ ?_|exact trivial)
       refine CallP.argsD (args' := [.agg [.int .i64 t.huts, .osl false 2 5 (t.only S).n 0]]) (fun η => by rw [h0]; simp [denL, den]) ?_
       refine CallP.pre (entAlias (i := 0) rfl 5 (TF (t.only S))) ?_
       refine CallP.frameH c92 [2] (by (repeat' first|exact fp|refine aN ?_ ?_); all_goals exact h0.symm) rfl ?_
       rintro ce h' ⟨s, cO, cp, cq, _, k2, k3, rfl, rfl⟩
       cases s with
       | true =>
        by_cases hw : (t.only S).trl = []
        ·have d2 : decide ((((t.only S).trl.length : Nat) : Int) = 0) = true := decide_eq_true (by rw [hw]; rfl)
         have st := step_y hlt (can_n hw)
         refine ⟨rfl, ?_⟩
         (repeat' first|exact aq|refine aN ?_ ?_|exact trivial)
         all_goals (repeat' first|exact aq|refine aN ?_ ?_|exact trivial)
         all_goals first | exact dd | skip
         all_goals intro h4
         all_goals first | (exfalso; (try rw [d1] at h4); (try rw [d2] at h4); exact Bool.noConfusion (show true = false from h4)) | (exfalso; (try rw [d1] at h4); (try rw [d2] at h4); exact Bool.noConfusion (show false = true from h4)) | skip
         (repeat' first|exact aq|refine aN ?_ ?_|exact trivial)
         all_goals first | exact dd | skip
         refine ⟨S + 1, by omega, by omega, ?_⟩
         refine ent_tau [0, 1] ⟨by (repeat' first|exact fp|refine aN ?_ ?_), ?_, rfl⟩
         (repeat' first|exact tm|refine aN ?_ ?_)
         exact congrArg (fun z : Nat => SV.int .i64 z) st.symm
        ·have d2 : decide ((((t.only S).trl.length : Nat) : Int) = 0) = false := decide_eq_false (by have := List.length_pos_iff.2 hw; omega)
         have st := step_n (.inr (can_y hw))
         refine ⟨rfl, ?_⟩
         (repeat' first|exact aq|refine aN ?_ ?_|exact trivial)
         all_goals (repeat' first|exact aq|refine aN ?_ ?_|exact trivial)
         all_goals first | exact dd | skip
         all_goals intro h4
         all_goals first | (exfalso; (try rw [d1] at h4); (try rw [d2] at h4); exact Bool.noConfusion (show true = false from h4)) | (exfalso; (try rw [d1] at h4); (try rw [d2] at h4); exact Bool.noConfusion (show false = true from h4)) | skip
         (repeat' first|exact aq|refine aN ?_ ?_|exact trivial)
         all_goals first | exact dd | skip
         refine ⟨S + 1, by omega, by omega, ?_⟩
         refine ent_tau [0, 1] ⟨by (repeat' first|exact fp|refine aN ?_ ?_), ?_, rfl⟩
         (repeat' first|exact tm|refine aN ?_ ?_)
         exact congrArg (fun z : Nat => SV.int .i64 z) st.symm
       | false =>
        have hw : (t.only S).trl = [] := k2 rfl
        have st := step_y hlt (can_n hw)
        refine ⟨rfl, ?_⟩
        (repeat' first|exact aq|refine aN ?_ ?_|exact trivial)
        all_goals (repeat' first|exact aq|refine aN ?_ ?_|exact trivial)
        all_goals first | exact dd | skip
        all_goals intro h4
        all_goals first | (exfalso; (try rw [d1] at h4); exact Bool.noConfusion (show true = false from h4)) | (exfalso; (try rw [d1] at h4); exact Bool.noConfusion (show false = true from h4)) | skip
        (repeat' first|exact aq|refine aN ?_ ?_|exact trivial)
        all_goals first | exact dd | skip
        refine ⟨S + 1, by omega, by omega, ?_⟩
        refine ent_tau [0, 1] ⟨by (repeat' first|exact fp|refine aN ?_ ?_), ?_, rfl⟩
        (repeat' first|exact tm|refine aN ?_ ?_)
        exact congrArg (fun z : Nat => SV.int .i64 z) st.symm
      ·refine ⟨rfl, ?_⟩
       have c92 := t92 (t := { t.only S with b := true, cap := c }) (valid_bc true c hT) (trl_len (valid_bc true c hT))
       rw [trl_bc] at c92
       all_goals (repeat' first|exact aq|refine aN ?_ ?_|exact trivial)
       all_goals first | exact dd | skip
       all_goals intro h5
       all_goals first | (exfalso; (try rw [d1] at h5); exact Bool.noConfusion (show true = false from h5)) | (exfalso; (try rw [d1] at h5); exact Bool.noConfusion (show false = true from h5)) | skip
       (repeat' first|exact aq|refine aN ?_ ?_|exact trivial)
       refine CallP.argsD (args' := [.agg [.int .i64 t.huts, .osl true 2 5 (t.only S).n c]]) (fun η => by simp [denL, den]) ?_
       refine CallP.frameH c92 [2] (by (repeat' first|exact fp|refine aN ?_ ?_)) rfl ?_
       rintro ce h' ⟨s, cO, cp, cq, _, k2, k3, rfl, rfl⟩
       cases s with
       | true =>
        by_cases hw : (t.only S).trl = []
        ·have d2 : decide ((((t.only S).trl.length : Nat) : Int) = 0) = true := decide_eq_true (by rw [hw]; rfl)
         have st := step_y hlt (can_n hw)
         refine ⟨rfl, ?_⟩
         (repeat' first|exact aq|refine aN ?_ ?_|exact trivial)
         all_goals (repeat' first|exact aq|refine aN ?_ ?_|exact trivial)
         all_goals first | exact dd | skip
         all_goals intro h4
         all_goals first | (exfalso; (try rw [d1] at h4); (try rw [d2] at h4); exact Bool.noConfusion (show true = false from h4)) | (exfalso; (try rw [d1] at h4); (try rw [d2] at h4); exact Bool.noConfusion (show false = true from h4)) | skip
         (repeat' first|exact aq|refine aN ?_ ?_|exact trivial)
         all_goals first | exact dd | skip
         refine ⟨S + 1, by omega, by omega, ?_⟩
         refine ent_tau [0, 1] ⟨by (repeat' first|exact fp|refine aN ?_ ?_), ?_, rfl⟩
         (repeat' first|exact tm|refine aN ?_ ?_)
         exact congrArg (fun z : Nat => SV.int .i64 z) st.symm
        ·have d2 : decide ((((t.only S).trl.length : Nat) : Int) = 0) = false := decide_eq_false (by have := List.length_pos_iff.2 hw; omega)
         have st := step_n (.inr (can_y hw))
         refine ⟨rfl, ?_⟩
         (repeat' first|exact aq|refine aN ?_ ?_|exact trivial)
         all_goals (repeat' first|exact aq|refine aN ?_ ?_|exact trivial)
         all_goals first | exact dd | skip
         all_goals intro h4
         all_goals first | (exfalso; (try rw [d1] at h4); (try rw [d2] at h4); exact Bool.noConfusion (show true = false from h4)) | (exfalso; (try rw [d1] at h4); (try rw [d2] at h4); exact Bool.noConfusion (show false = true from h4)) | skip
         (repeat' first|exact aq|refine aN ?_ ?_|exact trivial)
         all_goals first | exact dd | skip
         refine ⟨S + 1, by omega, by omega, ?_⟩
         refine ent_tau [0, 1] ⟨by (repeat' first|exact fp|refine aN ?_ ?_), ?_, rfl⟩
         (repeat' first|exact tm|refine aN ?_ ?_)
         exact congrArg (fun z : Nat => SV.int .i64 z) st.symm
       | false =>
        have hw : (t.only S).trl = [] := k2 rfl
        have st := step_y hlt (can_n hw)
        refine ⟨rfl, ?_⟩
        (repeat' first|exact aq|refine aN ?_ ?_|exact trivial)
        all_goals (repeat' first|exact aq|refine aN ?_ ?_|exact trivial)
        all_goals first | exact dd | skip
        all_goals intro h4
        all_goals first | (exfalso; (try rw [d1] at h4); exact Bool.noConfusion (show true = false from h4)) | (exfalso; (try rw [d1] at h4); exact Bool.noConfusion (show false = true from h4)) | skip
        (repeat' first|exact aq|refine aN ?_ ?_|exact trivial)
        all_goals first | exact dd | skip
        refine ⟨S + 1, by omega, by omega, ?_⟩
        refine ent_tau [0, 1] ⟨by (repeat' first|exact fp|refine aN ?_ ?_), ?_, rfl⟩
        (repeat' first|exact tm|refine aN ?_ ?_)
        exact congrArg (fun z : Nat => SV.int .i64 z) st.symm
     ·have d1 : decide (((TK.pop S : Nat) : Int) < ((TK.pop (t.clashB S) : Nat) : Int)) = false := decide_eq_false (by omega)
      have st := step_n (.inl hlt)
      (repeat' first|exact aq|refine aN ?_ ?_|exact trivial)
      refine ca.use [] ?_ (by (repeat' first|exact fp|refine aN ?_ ?_)) rfl
      (repeat' first|exact aq|refine aN ?_ ?_|exact trivial)
      refine cb.use [] ?_ (by (repeat' first|exact fp|refine aN ?_ ?_)) rfl
      all_goals (repeat' first|exact aq|refine aN ?_ ?_|exact trivial)
      all_goals first | exact dd | skip
      all_goals intro h3
      all_goals first | (exfalso; (try rw [d1] at h3); exact Bool.noConfusion (show true = false from h3)) | (exfalso; (try rw [d1] at h3); exact Bool.noConfusion (show false = true from h3)) | skip
      all_goals (repeat' first|exact aq|refine aN ?_ ?_|exact trivial)
      all_goals first | exact dd | skip
      all_goals intro h4
      all_goals first | (exfalso; (try rw [d1] at h4); exact Bool.noConfusion (show true = false from h4)) | (exfalso; (try rw [d1] at h4); exact Bool.noConfusion (show false = true from h4)) | skip
      all_goals (repeat' first|exact aq|refine aN ?_ ?_|exact trivial)
      all_goals first | exact dd | skip
      all_goals intro h5
      all_goals first | (exfalso; (try rw [d1] at h5); exact Bool.noConfusion (show true = false from h5)) | (exfalso; (try rw [d1] at h5); exact Bool.noConfusion (show false = true from h5)) | skip
      (repeat' first|exact aq|refine aN ?_ ?_|exact trivial)
      all_goals first | exact dd | skip
      refine ⟨S + 1, by omega, by omega, ?_⟩
      refine ent_tau [0, 1] ⟨by (repeat' first|exact fp|refine aN ?_ ?_), ?_, rfl⟩
      (repeat' first|exact tm|refine aN ?_ ?_)
      exact congrArg (fun z : Nat => SV.int .i64 z) st.symm
    ·obtain rfl : S = 2 ^ t.n := by
      have := of_decide_eq_false hc
      omega
     (repeat' first|exact aq|refine aN ?_ ?_|exact trivial)
     exact ent_tau [0] ⟨by (repeat' first|exact fp|refine aN ?_ ?_), by (repeat' first|exact tm|refine aN ?_ ?_), rfl⟩
  ·rw [cla_none hv (fun h => hne (trl_nil.1 h))]
   have hpos := List.length_pos_iff.2 hne
   have d2 : decide (((t.trl.length : Nat) : Int) > 0) = true := decide_eq_true (by omega)
   refine callR (E := E) E_ok Try.func31 rfl ?_
   (repeat' first|exact aq|refine aN ?_ ?_|exact trivial)
   refine c40.use [0] ?_ (by (repeat' first|exact fp|refine aN ?_ ?_)) rfl
   all_goals (repeat' first|exact aq|refine aN ?_ ?_|exact trivial)
   all_goals first | exact dd | skip
   all_goals intro h1
   all_goals first | exact absurd h1 (by decide) | (cases h1; done) | skip
   (repeat' first|exact aq|refine aN ?_ ?_|exact trivial)
   all_goals first | exact dd | skip
   refine c64.use [] ?_ (by (repeat' first|exact fp|refine aN ?_ ?_)) rfl
   (repeat' first|exact aq|refine aN ?_ ?_|exact trivial)
   all_goals first | exact dd | skip
   refine CallP.frameH (t92 hv (trl_len hv)) [0] (by (repeat' first|exact fp|refine aN ?_ ?_)) rfl ?_
   rintro ce h' ⟨s, cO, cp, cq, _, k2, k3, rfl, rfl⟩
   cases s with
   | true =>
    refine ⟨rfl, ?_⟩
    all_goals (repeat' first|exact aq|refine aN ?_ ?_|exact trivial)
    all_goals first | exact dd | skip
    all_goals intro h2
    all_goals first | (exfalso; (try rw [d2] at h2); exact Bool.noConfusion (show true = false from h2)) | (exfalso; (try rw [d2] at h2); exact Bool.noConfusion (show false = true from h2)) | skip
    (repeat' first|exact aq|refine aN ?_ ?_|exact trivial)
    exact ent_tau [0] ⟨by (repeat' first|exact fp|refine aN ?_ ?_), by (repeat' first|exact tm|refine aN ?_ ?_), rfl⟩
   | false => exact absurd (k2 rfl) hne
 ·have e : claT t = (0, 1) := by unfold claT; rw [if_pos hv]
  rw [e]
  rw [vb_no hv] at c40
  refine callR (E := E) E_ok Try.func31 rfl ?_
  (repeat' first|exact aq|refine aN ?_ ?_|exact trivial)
  refine c40.use [0] ?_ (by (repeat' first|exact fp|refine aN ?_ ?_)) rfl
  all_goals (repeat' first|exact aq|refine aN ?_ ?_|exact trivial)
  all_goals first | exact dd | skip
  all_goals intro h1
  all_goals first | exact absurd h1 (by decide) | (cases h1; done) | skip
  (repeat' first|exact aq|refine aN ?_ ?_|exact trivial)
  exact ent_tau [0] ⟨by (repeat' first|exact fp|refine aN ?_ ?_), by (repeat' first|exact tm|refine aN ?_ ?_), rfl⟩
end Go.Proofs.Ytioajogaghgipaa
/-
 Statements: can tickets be in too many ways.
-/
namespace Go.Proofs.Ytioajogaghgipaa
open Go Go.Sy Tic
set_option linter.unusedSimpArgs false
set_option maxRecDepth 100000
set_option maxHeartbeats 4000000
attribute [local irreducible] CallP CodeP Ent YieldP
set_option maxHeartbeats 16000000
-- fast: YtioajogaghgipaaDd

def waysN (t : TK) : Nat → Int
 | 0 => 1
 | k + 1 => waysN t k * ((t.bh k - t.bl k + 1) * (t.dh k - t.dl k + 1))
theorem mul_rng {a b A B : Int} (ha : 1 ≤ a ∧ a ≤ A) (hb : 1 ≤ b ∧ b ≤ B) : 1 ≤ a * b ∧ a * b ≤ A * B := by
 constructor
 ·have := Int.mul_le_mul ha.1 hb.1 (by decide) (by omega)
  simpa using this
 ·exact Int.mul_le_mul ha.2 hb.2 (by omega) (by omega)
theorem ways_one {t : TK} (hv : t.Valid) {k : Nat} (hk : k < t.n) : 1 ≤ (t.bh k - t.bl k + 1) * (t.dh k - t.dl k + 1) ∧ (t.bh k - t.bl k + 1) * (t.dh k - t.dl k + 1) ≤ 9 := by
 have h := hv.2.2 k hk
 unfold TK.okT spanOk at h
 exact mul_rng (A := 3) (B := 3) (by omega) (by omega)
theorem ways_rng {t : TK} (hv : t.Valid) : ∀ k, k ≤ t.n → 1 ≤ waysN t k ∧ waysN t k ≤ 9 ^ k
 | 0, _ => by simp [waysN]
 | k + 1, hk => by
  have ih := ways_rng hv k (by omega)
  have h := ways_one hv (k := k) (by omega)
  have := mul_rng ih h
  rw [waysN, Int.pow_succ]
  exact this
theorem ways_le {t : TK} (hv : t.Valid) {k : Nat} (hk : k ≤ t.n) : 1 ≤ waysN t k ∧ waysN t k ≤ 59049 := by
 have h1 := ways_rng hv k hk
 have h2 := hv.2.1
 have h3 : (9 : Int) ^ k ≤ 9 ^ 5 := by
  have : 9 ^ k ≤ 9 ^ 5 := Nat.pow_le_pow_right (n := 9) (by decide) (by omega)
  exact_mod_cast this
 have h4 : (9 : Int) ^ 5 = 59049 := by decide
 omega
noncomputable def hvB (t : TK) (w : Int) : Bool := bif decide (40 < t.n) then true else bif !vb t then false else decide (waysN t t.n > w)
theorem t12 (t : TK) (hl : t.n ≤ 9223372036854775807) (w : Int) : CallP Try.prog 12 [TA t, .int .i64 w] (TH t) (Ret (.bool (hvB t w)) (TH t)) := by
 have c39 := t39 t
 by_cases h40 : 40 < t.n
 ·have e : hvB t w = true := by unfold hvB; rw [decide_eq_true h40]; rfl
  rw [decide_eq_true h40] at c39
  rw [e]
  refine callR (E := E) E_ok Try.func12 rfl ?_
  (repeat' first|exact aq|refine aN ?_ ?_|exact trivial)
  refine c39.use [0] ?_ (by (repeat' first|exact fp|refine aN ?_ ?_)) rfl
  all_goals (repeat' first|exact aq|refine aN ?_ ?_|exact trivial)
  all_goals first | exact dd | skip
  all_goals intro h1
  all_goals first | exact absurd h1 (by decide) | (cases h1; done) | skip
  (repeat' first|exact aq|refine aN ?_ ?_|exact trivial)
  all_goals first | exact dd | skip
  all_goals (repeat' first|exact aq|refine aN ?_ ?_|exact trivial)
  all_goals first | exact dd | skip
  all_goals intro h2
  all_goals first | exact absurd h2 (by decide) | (cases h2; done) | skip
  (repeat' first|exact aq|refine aN ?_ ?_|exact trivial)
  refine c39.use [0] ?_ (by (repeat' first|exact fp|refine aN ?_ ?_)) rfl
  (repeat' first|exact aq|refine aN ?_ ?_|exact trivial)
  exact ent_tau [0] ⟨by (repeat' first|exact fp|refine aN ?_ ?_), by (repeat' first|exact tm|refine aN ?_ ?_), rfl⟩
 ·rw [decide_eq_false h40] at c39
  have c40 := t40 t (by omega)
  by_cases hv : t.Valid
  ·have e : hvB t w = decide (waysN t t.n > w) := by unfold hvB; rw [decide_eq_false h40, vb_yes hv]; rfl
   rw [vb_yes hv] at c40
   rw [e]
   refine callR (E := E) E_ok Try.func12 rfl ?_
   (repeat' first|exact aq|refine aN ?_ ?_|exact trivial)
   refine c39.use [0] ?_ (by (repeat' first|exact fp|refine aN ?_ ?_)) rfl
   all_goals (repeat' first|exact aq|refine aN ?_ ?_|exact trivial)
   all_goals first | exact dd | skip
   all_goals intro h1
   all_goals first | exact absurd h1 (by decide) | (cases h1; done) | skip
   refine c40.use [0] ?_ (by (repeat' first|exact fp|refine aN ?_ ?_)) rfl
   all_goals (repeat' first|exact aq|refine aN ?_ ?_|exact trivial)
   all_goals first | exact dd | skip
   all_goals intro h2
   all_goals first | exact absurd h2 (by decide) | (cases h2; done) | skip
   (repeat' first|exact aq|refine aN ?_ ?_|exact trivial)
   all_goals first | exact dd | skip
   refine loopP E_ok [1, 2, 18, 19] (fun i : Nat => [(5, .int .i64 (waysN t i)), (20, .int .i64 i)]) (fun _ _ => TH t ++ [some (.cells (tb t))]) (fun i => i ≤ t.n) (fun i => t.n - i) 0 (Nat.zero_le _) ?_ ?_
   ·exact ent_tau [0, 1] ⟨by (repeat' first|exact fp|refine aN ?_ ?_), by (repeat' first|exact tm|refine aN ?_ ?_), rfl⟩
   rintro i hi
   have hw0 := ways_le hv hi
   refine And.intro ?_ (And.intro (fun hlt => ?_) (fun hlt => ?_))
   ·(repeat' first|exact aq|refine aN ?_ ?_|exact trivial)
   ·have hlt' : i < t.n := by
     have := of_decide_eq_true hlt
     omega
    have ei := z1 i
    have hw1 : ∀ j, j = i → 1 ≤ waysN t i * ((t.bh j - t.bl j + 1) * (t.dh j - t.dl j + 1)) ∧ waysN t i * ((t.bh j - t.bl j + 1) * (t.dh j - t.dl j + 1)) ≤ 59049 := fun j hj => by
     subst hj
     exact ways_le hv (show j + 1 ≤ t.n by omega)
    have w1 : ∀ j, j = i → 1 ≤ (t.bh j - t.bl j + 1) * (t.dh j - t.dl j + 1) ∧ (t.bh j - t.bl j + 1) * (t.dh j - t.dl j + 1) ≤ 9 := fun j hj => by
     subst hj
     exact ways_one hv hlt'
    have o : ∀ j, j = i → t.okT j := fun j hj => by
     subst hj
     exact hv.2.2 j hlt'
    replace hw1 := hw1 _ ei
    replace w1 := w1 _ ei
    replace o := o _ ei
    unfold TK.okT spanOk at o
    (repeat' first|exact aq|refine aN ?_ ?_|exact trivial)
    all_goals first | exact dd | skip
    refine ⟨i + 1, hlt', by omega, ?_⟩
    refine ent_tau [0, 1] ⟨by (repeat' first|exact fp|refine aN ?_ ?_), ?_, rfl⟩
    (repeat' first|exact tm|refine aN ?_ ?_)
    refine congrArg (SV.int .i64) ?_
    rw [ei]
    rfl
   ·have e : i = t.n := by
     have := of_decide_eq_false hlt
     omega
    subst e
    (repeat' first|exact aq|refine aN ?_ ?_|exact trivial)
    exact ent_tau [0] ⟨by (repeat' first|exact fp|refine aN ?_ ?_), by (repeat' first|exact tm|refine aN ?_ ?_), rfl⟩
  ·have e : hvB t w = false := by unfold hvB; rw [decide_eq_false h40, vb_no hv]; rfl
   rw [vb_no hv] at c40
   rw [e]
   refine callR (E := E) E_ok Try.func12 rfl ?_
   (repeat' first|exact aq|refine aN ?_ ?_|exact trivial)
   refine c39.use [0] ?_ (by (repeat' first|exact fp|refine aN ?_ ?_)) rfl
   all_goals (repeat' first|exact aq|refine aN ?_ ?_|exact trivial)
   all_goals first | exact dd | skip
   all_goals intro h1
   all_goals first | exact absurd h1 (by decide) | (cases h1; done) | skip
   refine c40.use [0] ?_ (by (repeat' first|exact fp|refine aN ?_ ?_)) rfl
   all_goals (repeat' first|exact aq|refine aN ?_ ?_|exact trivial)
   all_goals first | exact dd | skip
   all_goals intro h2
   all_goals first | exact absurd h2 (by decide) | (cases h2; done) | skip
   (repeat' first|exact aq|refine aN ?_ ?_|exact trivial)
   all_goals first | exact dd | skip
   refine c39.use [0] ?_ (by (repeat' first|exact fp|refine aN ?_ ?_)) rfl
   (repeat' first|exact aq|refine aN ?_ ?_|exact trivial)
   exact ent_tau [0] ⟨by (repeat' first|exact fp|refine aN ?_ ?_), by (repeat' first|exact tm|refine aN ?_ ?_), rfl⟩
end Go.Proofs.Ytioajogaghgipaa
/-
 TicketTells.
-/
namespace Go.Proofs.Ytioajogaghgipaa
open Go Go.Sy Tic
set_option linter.unusedSimpArgs false
set_option maxRecDepth 100000
set_option maxHeartbeats 4000000
attribute [local irreducible] CallP CodeP Ent YieldP
set_option maxHeartbeats 16000000
-- fast: YtioajogaghgipaaDd

theorem hvB_n {t : TK} {w : Int} (h : hvB t w = false) : t.n ≤ 40 := by
 unfold hvB at h
 by_cases c : 40 < t.n
 ·rw [decide_eq_true c] at h
  cases h
 ·omega
end Go.Proofs.Ytioajogaghgipaa
/-
 TicketSums.
-/
namespace Go.Proofs.Ytioajogaghgipaa
open Go Go.Sy Tic
set_option linter.unusedSimpArgs false
set_option maxRecDepth 100000
set_option maxHeartbeats 4000000
attribute [local irreducible] CallP CodeP Ent YieldP
set_option maxHeartbeats 16000000
-- fast: YtioajogaghgipaaDd

theorem t4 (t : TK) (hI : InR .i64 t.huts) (hl : t.n ≤ 9223372036854775807) : CallP Try.prog 4 [TA t] (TH t) (Ret (.bool true) (TH t)) := by
 have c12 := t12 t hl 2500
 obtain ⟨v, hv⟩ : ∃ v, hvB t 2500 = v := ⟨_, rfl⟩
 rw [hv] at c12
 cases v with
 | true =>
  refine callR (E := E) E_ok Try.func4 rfl ?_
  (repeat' first|exact aq|refine aN ?_ ?_|exact trivial)
  refine c12.use [0] ?_ (by (repeat' first|exact fp|refine aN ?_ ?_)) rfl
  all_goals (repeat' first|exact aq|refine aN ?_ ?_|exact trivial)
  all_goals first | exact dd | skip
  all_goals intro h1
  all_goals first | exact absurd h1 (by decide) | (cases h1; done) | skip
  (repeat' first|exact aq|refine aN ?_ ?_|exact trivial)
  refine t13.use [] ?_ trivial rfl
  (repeat' first|exact aq|refine aN ?_ ?_|exact trivial)
  exact ent_tau [0] ⟨by (repeat' first|exact fp|refine aN ?_ ?_), by (repeat' first|exact tm|refine aN ?_ ?_), rfl⟩
 | false =>
  have hn := hvB_n hv
  have c24 := t24 t (by omega) hI
  have c25 := t25 t (by omega)
  have c26 := t26 t (by omega) hI
  have c27 := t27 t (by omega)
  have c28 := t28 t (by omega) hI
  have c29 := t29 t (by omega)
  have c30 := t30 t (by omega) hI
  have c31 := t31 t (by omega)
  generalize spT t t.waits = MI at c24 c25
  generalize spT t t.busy = TU at c26 c27
  generalize spT t t.wrong = PA at c28 c29
  generalize claT t = WH at c30 c31
  obtain ⟨m1, m2, m3⟩ := MI
  obtain ⟨u1, u2, u3⟩ := TU
  obtain ⟨p1, p2, p3⟩ := PA
  obtain ⟨w1, w2⟩ := WH
  dsimp only at c24 c25 c26 c27 c28 c29 c30 c31
  refine callR (E := E) E_ok Try.func4 rfl ?_
  (repeat' first|exact aq|refine aN ?_ ?_|exact trivial)
  refine c12.use [0] ?_ (by (repeat' first|exact fp|refine aN ?_ ?_)) rfl
  all_goals (repeat' first|exact aq|refine aN ?_ ?_|exact trivial)
  all_goals first | exact dd | skip
  all_goals intro h1
  all_goals first | exact absurd h1 (by decide) | (cases h1; done) | skip
  (repeat' first|exact aq|refine aN ?_ ?_|exact trivial)
  refine c24.use [0] ?_ (by (repeat' first|exact fp|refine aN ?_ ?_)) rfl
  (repeat' first|exact aq|refine aN ?_ ?_|exact trivial)
  refine c25.use [0] ?_ (by (repeat' first|exact fp|refine aN ?_ ?_)) rfl
  (repeat' first|exact aq|refine aN ?_ ?_|exact trivial)
  refine c26.use [0] ?_ (by (repeat' first|exact fp|refine aN ?_ ?_)) rfl
  (repeat' first|exact aq|refine aN ?_ ?_|exact trivial)
  refine c27.use [0] ?_ (by (repeat' first|exact fp|refine aN ?_ ?_)) rfl
  (repeat' first|exact aq|refine aN ?_ ?_|exact trivial)
  refine c28.use [0] ?_ (by (repeat' first|exact fp|refine aN ?_ ?_)) rfl
  (repeat' first|exact aq|refine aN ?_ ?_|exact trivial)
  refine c29.use [0] ?_ (by (repeat' first|exact fp|refine aN ?_ ?_)) rfl
  (repeat' first|exact aq|refine aN ?_ ?_|exact trivial)
  refine c30.use [0] ?_ (by (repeat' first|exact fp|refine aN ?_ ?_)) rfl
  (repeat' first|exact aq|refine aN ?_ ?_|exact trivial)
  refine c31.use [0] ?_ (by (repeat' first|exact fp|refine aN ?_ ?_)) rfl
  (repeat' first|exact aq|refine aN ?_ ?_|exact trivial)
  all_goals first | ((with_reducible show under _ _); simp [under, gB, wB]; done) | skip
  all_goals intro hy
  all_goals first | (exfalso; revert hy; simp [gB, wB]; done) | skip
  refine t13.use [] ?_ trivial rfl
  (repeat' first|exact aq|refine aN ?_ ?_|exact trivial)
  all_goals first | ((with_reducible show under _ _); simp [under, gB, wB]; done) | skip
  refine ent_tau [0] ⟨by (repeat' first|exact fp|refine aN ?_ ?_), ⟨rfl, ?_, trivial⟩, rfl⟩
  refine congrArg SV.bool ?_
  simp
end Go.Proofs.Ytioajogaghgipaa
