/-
  Parts: T6.
-/
import Derived.Test.YtioajogaghgipaaK27
set_option linter.unusedVariables false
/-
  TicketClash.
-/
namespace Go.Proofs.Ytioajogaghgipaa
open Go Go.Sy Tic
set_option linter.unusedSimpArgs false
set_option maxRecDepth 100000
set_option maxHeartbeats 4000000
attribute [local irreducible] CallP CodeP Ent YieldP
set_option maxHeartbeats 16000000

theorem can_zero (t : TK) : t.can 0 = true := TK.can_iff.2 ⟨fun _ => (0, 0), fun i _ h => by simp at h, fun i k _ _ h => by simp at h⟩
/-- The hut that is known so far. -/
def HutI (t : TK) (S i : Nat) (h : Int) : Prop := h = -1 ∨ ∃ k, k < i ∧ k < t.n ∧ S.testBit k = true ∧ h = t.hut k
theorem less_is {t : TK} (hn : t.n ≤ 5) {S i : Nat} (h : t.IsClash S) (hi : i < t.n) (hb : S.testBit i = true) : t.can (sdiff S (2 ^ i)) = true := by
  refine TK.clash_less hn h hi hb (sdiff_lt h.1) fun k hk => ?_
  rw [sdiff_bit (by omega), Nat.testBit_two_pow]
  congr 1
  by_cases c : k = i
  · subst c; simp
  · rw [decide_eq_false c, decide_eq_false (fun e => c e.symm)]
noncomputable def T10a (t : TK) (a s e f : Int) : Tm := mkT [] [(1, .int .u8 a), (2, .ptr 1 0), (5, .int .i64 s), (6, .int .i64 e), (8, .int .i64 f), (9, .fn (.func 43) [] [.ptr 1 0]), (10, .int .i64 (2 ^ t.n - 1 : Nat))] 0 (List.replicate 159 none)
noncomputable def T10b (t : TK) (a s : Int) : Tm := mkT [] [(1, .int .u8 a), (5, .int .i64 s), (9, .fn (.func 43) [] [.ptr 1 0]), (10, .int .i64 (2 ^ t.n - 1 : Nat))] 0 (List.replicate 159 none)
def HCl (t : TK) : SHeap := TH t ++ [some (.cells (tb t))]
/-- The end: others are no better. -/
theorem seg10b (t : TK) (hv : t.Valid) (hne : t.trs = []) (a : Nat) (ha : a ≤ 255) : CodeP Try.prog none 1 (sufC Try.f10 12) ⟨T10b t a (t.clash : Nat), HCl t, []⟩ (KRet E Try.f10 1 (.bool true) (TH t)) := by
  have hn := hv.2.1
  have hc := TK.clash_is hn hne
  obtain ⟨own, ho⟩ : ∃ own : Nat, a &&& (2 ^ t.n - 1) = own := ⟨_, rfl⟩
  have hp := Nat.pow_pos (n := t.n) (show 0 < 2 by omega)
  have p2 : 2 ^ t.n ≤ 2 ^ 5 := Nat.pow_le_pow_right (by omega) hn
  have hown : own < 2 ^ t.n := by
    have := Nat.and_le_right (n := a) (m := 2 ^ t.n - 1)
    omega
  have hcl := hc.1
  have ea : bitOp .and .i64 ((a : Nat) : Int) ((2 ^ t.n - 1 : Nat) : Int) = ((own : Nat) : Int) := by
    rw [and64 (by omega) (by omega), ho]
  have c43 := t43 t hv own (by omega)
  have c38 := t38 own (by omega)
  have c38b := t38 t.clash (by omega)
  rw [← ea] at c43 c38
  cases hcan : t.can own with
  | true =>
    rw [hcan] at c43
    refine codeP_XK E_ok 100 ?_
    (repeat' (first | exact aq | refine And.intro ?_ ?_ | exact trivial))
    all_goals first | exact dd | skip
    refine c43.use [0, 1] ?_ (by (repeat' (first | exact fp | refine And.intro ?_ ?_))) rfl
    all_goals (repeat' (first | exact aq | refine And.intro ?_ ?_ | exact trivial))
    all_goals first | exact dd | skip
    all_goals intro h1
    all_goals first | exact absurd h1 (by decide) | (cases h1; done) | skip
    all_goals (repeat' (first | exact aq | refine And.intro ?_ ?_ | exact trivial))
    all_goals first | exact dd | skip
    all_goals intro h2
    all_goals first | exact absurd h2 (by decide) | (cases h2; done) | skip
    all_goals (repeat' (first | exact aq | refine And.intro ?_ ?_ | exact trivial))
    all_goals first | exact dd | skip
    all_goals intro h3
    all_goals first | exact absurd h3 (by decide) | (cases h3; done) | skip
    all_goals (repeat' (first | exact aq | refine And.intro ?_ ?_ | exact trivial))
    all_goals first | exact dd | skip
    all_goals intro h4
    all_goals first | exact absurd h4 (by decide) | (cases h4; done) | skip
    all_goals (repeat' (first | exact aq | refine And.intro ?_ ?_ | exact trivial))
    all_goals first | exact dd | skip
    all_goals intro h5
    all_goals first | exact absurd h5 (by decide) | (cases h5; done) | skip
    refine t13.use [] ?_ trivial rfl
    (repeat' (first | exact aq | refine And.intro ?_ ?_ | exact trivial))
    all_goals first | exact dd | skip
    exact ent_tau [0] ⟨by (repeat' (first | exact fp | refine And.intro ?_ ?_)), by (repeat' (first | exact tm | refine And.intro ?_ ?_)), rfl⟩
  | false =>
    rw [hcan] at c43
    rcases hc.2.2 own hown hcan with hlt | ⟨heq, hle⟩
    · have d1 : decide (((TK.pop own : Nat) : Int) > ((TK.pop t.clash : Nat) : Int)) = true := decide_eq_true (by omega)
      refine codeP_XK E_ok 100 ?_
      (repeat' (first | exact aq | refine And.intro ?_ ?_ | exact trivial))
      all_goals first | exact dd | skip
      refine c43.use [0, 1] ?_ (by (repeat' (first | exact fp | refine And.intro ?_ ?_))) rfl
      all_goals (repeat' (first | exact aq | refine And.intro ?_ ?_ | exact trivial))
      all_goals first | exact dd | skip
      all_goals intro h1
      all_goals first | exact absurd h1 (by decide) | (cases h1; done) | skip
      refine c38.use [] ?_ (by (repeat' (first | exact fp | refine And.intro ?_ ?_))) rfl
      all_goals (repeat' (first | exact aq | refine And.intro ?_ ?_ | exact trivial))
      all_goals first | exact dd | skip
      all_goals intro h2
      all_goals first | exact absurd h2 (by decide) | (cases h2; done) | skip
      refine c38b.use [] ?_ (by (repeat' (first | exact fp | refine And.intro ?_ ?_))) rfl
      all_goals (repeat' (first | exact aq | refine And.intro ?_ ?_ | exact trivial))
      all_goals first | exact dd | skip
      all_goals intro h3
      all_goals first | (exfalso; (try rw [d1] at h3); exact Bool.noConfusion (show true = false from h3)) | (exfalso; (try rw [d1] at h3); exact Bool.noConfusion (show false = true from h3)) | skip
      all_goals (repeat' (first | exact aq | refine And.intro ?_ ?_ | exact trivial))
      all_goals first | exact dd | skip
      all_goals intro h4
      all_goals first | (exfalso; (try rw [d1] at h4); exact Bool.noConfusion (show true = false from h4)) | (exfalso; (try rw [d1] at h4); exact Bool.noConfusion (show false = true from h4)) | skip
      all_goals (repeat' (first | exact aq | refine And.intro ?_ ?_ | exact trivial))
      all_goals first | exact dd | skip
      all_goals intro h5
      all_goals first | (exfalso; (try rw [d1] at h5); exact Bool.noConfusion (show true = false from h5)) | (exfalso; (try rw [d1] at h5); exact Bool.noConfusion (show false = true from h5)) | skip
      refine t13.use [] ?_ trivial rfl
      (repeat' (first | exact aq | refine And.intro ?_ ?_ | exact trivial))
      all_goals first | exact dd | skip
      refine ent_tau [0] ⟨by (repeat' (first | exact fp | refine And.intro ?_ ?_)), ⟨rfl, ?_, trivial⟩, rfl⟩
      refine congrArg SV.bool ?_
      rw [d1]
      rfl
    · have d1 : decide (((TK.pop own : Nat) : Int) > ((TK.pop t.clash : Nat) : Int)) = false := decide_eq_false (by omega)
      have d2 : decide (((TK.pop own : Nat) : Int) = ((TK.pop t.clash : Nat) : Int)) = true := decide_eq_true (by omega)
      have d3 : decide (bitOp .and .i64 ((a : Nat) : Int) ((2 ^ t.n - 1 : Nat) : Int) ≥ ((t.clash : Nat) : Int)) = true := decide_eq_true (by rw [ea]; omega)
      refine codeP_XK E_ok 100 ?_
      (repeat' (first | exact aq | refine And.intro ?_ ?_ | exact trivial))
      all_goals first | exact dd | skip
      refine c43.use [0, 1] ?_ (by (repeat' (first | exact fp | refine And.intro ?_ ?_))) rfl
      all_goals (repeat' (first | exact aq | refine And.intro ?_ ?_ | exact trivial))
      all_goals first | exact dd | skip
      all_goals intro h1
      all_goals first | exact absurd h1 (by decide) | (cases h1; done) | skip
      refine c38.use [] ?_ (by (repeat' (first | exact fp | refine And.intro ?_ ?_))) rfl
      all_goals (repeat' (first | exact aq | refine And.intro ?_ ?_ | exact trivial))
      all_goals first | exact dd | skip
      all_goals intro h2
      all_goals first | exact absurd h2 (by decide) | (cases h2; done) | skip
      refine c38b.use [] ?_ (by (repeat' (first | exact fp | refine And.intro ?_ ?_))) rfl
      all_goals (repeat' (first | exact aq | refine And.intro ?_ ?_ | exact trivial))
      all_goals first | exact dd | skip
      all_goals intro h3
      all_goals first | (exfalso; (try rw [d1] at h3); exact Bool.noConfusion (show true = false from h3)) | (exfalso; (try rw [d1] at h3); exact Bool.noConfusion (show false = true from h3)) | skip
      refine c38.use [] ?_ (by (repeat' (first | exact fp | refine And.intro ?_ ?_))) rfl
      all_goals (repeat' (first | exact aq | refine And.intro ?_ ?_ | exact trivial))
      all_goals first | exact dd | skip
      all_goals intro h4
      all_goals first | (exfalso; (try rw [d1] at h4); exact Bool.noConfusion (show true = false from h4)) | (exfalso; (try rw [d1] at h4); exact Bool.noConfusion (show false = true from h4)) | skip
      refine c38b.use [] ?_ (by (repeat' (first | exact fp | refine And.intro ?_ ?_))) rfl
      all_goals (repeat' (first | exact aq | refine And.intro ?_ ?_ | exact trivial))
      all_goals first | exact dd | skip
      all_goals intro h5
      all_goals first | (exfalso; (try rw [d1] at h5); (try rw [d2] at h5); (try rw [d3] at h5); exact Bool.noConfusion (show true = false from h5)) | (exfalso; (try rw [d1] at h5); (try rw [d2] at h5); (try rw [d3] at h5); exact Bool.noConfusion (show false = true from h5)) | skip
      refine t13.use [] ?_ trivial rfl
      (repeat' (first | exact aq | refine And.intro ?_ ?_ | exact trivial))
      all_goals first | exact dd | skip
      refine ent_tau [0] ⟨by (repeat' (first | exact fp | refine And.intro ?_ ?_)), ⟨rfl, ?_, trivial⟩, rfl⟩
      refine congrArg SV.bool ?_
      rw [d1, d2, d3]
      rfl
theorem seg10a (t : TK) (hv : t.Valid) (hne : t.trs = []) (a : Nat) (ha : a ≤ 255) : CodeP Try.prog none 1 (sufC Try.f10 9) ⟨T10a t a (t.clash : Nat) 0 10, HCl t, []⟩ (KRet E Try.f10 1 (.bool true) (TH t)) := by
  have hn := hv.2.1
  have hc := TK.clash_is hn hne
  have hp := Nat.pow_pos (n := t.n) (show 0 < 2 by omega)
  have p2 : 2 ^ t.n ≤ 2 ^ 5 := Nat.pow_le_pow_right (by omega) hn
  have hcl := hc.1
  have hc0 : t.clash ≠ 0 := fun e => by
    have := hc.2.1
    rw [e, can_zero] at this
    cases this
  have d1 : decide (((t.clash : Nat) : Int) < 1) = false := decide_eq_false (by omega)
  have d2 : decide (((t.clash : Nat) : Int) > ((2 ^ t.n - 1 : Nat) : Int)) = false := decide_eq_false (by omega)
  have c43 := t43 t hv t.clash (by omega)
  rw [hc.2.1] at c43
  refine codeP_XK E_ok 3 ?_
  all_goals (repeat' (first | exact aq | refine And.intro ?_ ?_ | exact trivial))
  all_goals first | exact dd | skip
  all_goals intro h1
  all_goals first | (exfalso; (try rw [d1] at h1); (try rw [d2] at h1); exact Bool.noConfusion (show true = false from h1)) | (exfalso; (try rw [d1] at h1); (try rw [d2] at h1); exact Bool.noConfusion (show false = true from h1)) | skip
  refine c43.use [0, 1] ?_ (by (repeat' (first | exact fp | refine And.intro ?_ ?_))) rfl
  all_goals (repeat' (first | exact aq | refine And.intro ?_ ?_ | exact trivial))
  all_goals first | exact dd | skip
  all_goals intro h2
  all_goals first | (exfalso; (try rw [d1] at h2); (try rw [d2] at h2); exact Bool.noConfusion (show true = false from h2)) | (exfalso; (try rw [d1] at h2); (try rw [d2] at h2); exact Bool.noConfusion (show false = true from h2)) | skip
  (repeat' (first | exact aq | refine And.intro ?_ ?_ | exact trivial))
  all_goals first | exact dd | skip
  refine loopP E_ok [1, 2, 5, 9, 10, 94, 95] (fun g : Int × Nat => [(11, .int .i64 g.1), (96, .int .i64 g.2)]) (fun _ _ => HCl t) (fun g => g.2 ≤ t.n ∧ HutI t t.clash g.2 g.1) (fun g => t.n - g.2) (-1, 0) ⟨Nat.zero_le _, .inl rfl⟩ ?_ ?_
  · exact ent_tau [0, 1] ⟨by (repeat' (first | exact fp | refine And.intro ?_ ?_)), by (repeat' (first | exact tm | refine And.intro ?_ ?_)), rfl⟩
  clear c43
  rintro ⟨h, i⟩ ⟨hi, hI⟩
  simp only at hi hI
  refine And.intro ?_ (And.intro (fun hlt => ?_) (fun hlt => ?_))
  · (repeat' (first | exact aq | refine And.intro ?_ ?_ | exact trivial))
  · have hlt' : i < t.n := by
      have := of_decide_eq_true hlt
      simp only at this
      omega
    have ei := z1 i
    have c63 : t.clash < 2 ^ 63 := by omega
    cases hb : t.clash.testBit i with
    | false =>
      have db : decide (bitOp .and .i64 ((t.clash : Int).fdiv (2 ^ ((i : Nat) : Int).toNat)) 1 = 0) = true := by rw [Int.toNat_natCast, has0 c63, hb]; rfl
      (repeat' (first | exact aq | refine And.intro ?_ ?_ | exact trivial))
      all_goals first | exact dd | skip
      all_goals (repeat' (first | exact aq | refine And.intro ?_ ?_ | exact trivial))
      all_goals first | exact dd | skip
      all_goals intro h3
      all_goals first | (exfalso; (try rw [db] at h3); exact Bool.noConfusion (show true = false from h3)) | (exfalso; (try rw [db] at h3); exact Bool.noConfusion (show false = true from h3)) | skip
      (repeat' (first | exact aq | refine And.intro ?_ ?_ | exact trivial))
      all_goals first | exact dd | skip
      refine ⟨(h, i + 1), ⟨hlt', ?_⟩, by simp only; omega, ?_⟩
      · rcases hI with q | ⟨k, k1, k2⟩
        · exact .inl q
        · exact .inr ⟨k, by simp only; omega, k2⟩
      exact ent_tau [0, 1] ⟨by (repeat' (first | exact fp | refine And.intro ?_ ?_)), by (repeat' (first | exact tm | refine And.intro ?_ ?_)), rfl⟩
    | true =>
      have db : decide (bitOp .and .i64 ((t.clash : Int).fdiv (2 ^ ((i : Nat) : Int).toNat)) 1 = 0) = false := by rw [Int.toNat_natCast, has0 c63, hb]; rfl
      have pk := pow_int i
      have pl : 2 ^ i ≤ 2 ^ 5 := Nat.pow_le_pow_right (by omega) (by omega)
      have es : bitOp .andNot .i64 ((t.clash : Nat) : Int) (1 * 2 ^ ((i : Nat) : Int).toNat) = ((sdiff t.clash (2 ^ i) : Nat) : Int) := by rw [pk, andNot64 c63]
      have c43 := t43 t hv (sdiff t.clash (2 ^ i)) (by have := sdiff_lt (b := 2 ^ i) hcl; omega)
      rw [less_is hn hc hlt' hb, ← es] at c43
      have pk0 : (0 : Int) ≤ 1 * 2 ^ ((i : Nat) : Int).toNat := by rw [pk]; exact Int.natCast_nonneg _
      have pk1 : (1 : Int) * 2 ^ ((i : Nat) : Int).toNat ≤ 9223372036854775807 := by rw [pk]; omega
      have d5 : (bif decide (h ≥ 0) then !decide (t.hut (0 + ((i : Nat) : Int).toNat) = h) else false) = false := by
        rw [ei]
        rcases hI with rfl | ⟨k, k1, k2, k3, rfl⟩
        · rfl
        · rw [decide_eq_true (TK.clash_hut hn hc hlt' k2 hb k3)]
          cases decide (t.hut k ≥ 0) <;> rfl
      (repeat' (first | exact aq | refine And.intro ?_ ?_ | exact trivial))
      all_goals first | exact dd | skip
      all_goals (repeat' (first | exact aq | refine And.intro ?_ ?_ | exact trivial))
      all_goals first | exact dd | skip
      all_goals intro h3
      all_goals first | (exfalso; (try rw [db] at h3); exact Bool.noConfusion (show true = false from h3)) | (exfalso; (try rw [db] at h3); exact Bool.noConfusion (show false = true from h3)) | skip
      (repeat' (first | exact aq | refine And.intro ?_ ?_ | exact trivial))
      all_goals first | exact dd | skip
      all_goals first | ((with_reducible show (_ : Int) ≤ _); first | exact pk1 | exact Int.le_trans (by decide) pk0) | skip
      refine c43.use [0, 1] ?_ (by (repeat' (first | exact fp | refine And.intro ?_ ?_))) rfl
      (repeat' (first | exact aq | refine And.intro ?_ ?_ | exact trivial))
      all_goals first | exact dd | skip
      all_goals intro hx
      all_goals first | (exfalso; exact Bool.noConfusion (d5.symm.trans hx)) | skip
      clear hx
      (repeat' (first | exact aq | refine And.intro ?_ ?_ | exact trivial))
      all_goals first | exact dd | skip
      refine ⟨(t.hut (0 + ((i : Nat) : Int).toNat), i + 1), ⟨hlt', .inr ⟨i, by simp only; omega, hlt', hb, by rw [ei]⟩⟩, by simp only; omega, ?_⟩
      exact ent_tau [0, 1] ⟨by (repeat' (first | exact fp | refine And.intro ?_ ?_)), by (repeat' (first | exact tm | refine And.intro ?_ ?_)), rfl⟩
  · have e : i = t.n := by
      have := of_decide_eq_false hlt
      simp only at this
      omega
    (repeat' (first | exact aq | refine And.intro ?_ ?_ | exact trivial))
    refine CodeP.part (seg10b t hv hne a ha) ?_
    exact ent_tau [0, 1] ⟨by (repeat' (first | exact fp | refine And.intro ?_ ?_)), by (repeat' (first | exact tm | refine And.intro ?_ ?_)), rfl⟩
theorem can_all' {t : TK} : t.can (2 ^ t.n - 1) = !t.trs.isEmpty := by
  rw [Bool.eq_iff_iff, TK.can_every, Bool.not_eq_true', ← Bool.not_eq_true, List.isEmpty_iff]
theorem t10 (t : TK) (hI : InR .i64 t.huts) (hl : t.n ≤ 9223372036854775807) (a : Nat) (ha : a ≤ 255) : CallP Try.prog 10 [TA t, .int .u8 a] (TH t) (Ret (.bool true) (TH t)) := by
  have c39 := t39 t
  by_cases h40 : 40 < t.n
  · rw [decide_eq_true h40] at c39
    refine callR (E := E) E_ok Try.func10 rfl ?_
    (repeat' (first | exact aq | refine And.intro ?_ ?_ | exact trivial))
    refine c39.use [0] ?_ (by (repeat' (first | exact fp | refine And.intro ?_ ?_))) rfl
    all_goals (repeat' (first | exact aq | refine And.intro ?_ ?_ | exact trivial))
    all_goals first | exact dd | skip
    all_goals intro h1
    all_goals first | exact absurd h1 (by decide) | (cases h1; done) | skip
    (repeat' (first | exact aq | refine And.intro ?_ ?_ | exact trivial))
    refine t13.use [] ?_ trivial rfl
    (repeat' (first | exact aq | refine And.intro ?_ ?_ | exact trivial))
    exact ent_tau [0] ⟨by (repeat' (first | exact fp | refine And.intro ?_ ?_)), by (repeat' (first | exact tm | refine And.intro ?_ ?_)), rfl⟩
  · rw [decide_eq_false h40] at c39
    have c40 := t40 t (by omega)
    have c30 := t30 t (by omega) hI
    have c24 := t24 t (by omega) hI
    by_cases hv : t.Valid
    · rw [vb_yes hv] at c40
      have hn := hv.2.1
      have pk := pow_int t.n
      have p1 := Nat.pow_pos (n := t.n) (show 0 < 2 by omega)
      have p2 : 2 ^ t.n ≤ 2 ^ 5 := Nat.pow_le_pow_right (by omega) hn
      have pe : (1 : Int) * 2 ^ ((t.n : Nat) : Int).toNat - 1 = ((2 ^ t.n - 1 : Nat) : Int) := by
        rw [pk]
        omega
      have pk0 : (0 : Int) ≤ 1 * 2 ^ ((t.n : Nat) : Int).toNat := by rw [pk]; exact Int.natCast_nonneg _
      have pk1 : (1 : Int) * 2 ^ ((t.n : Nat) : Int).toNat ≤ 9223372036854775807 := by rw [pk]; omega
      have pe0 : (0 : Int) ≤ 1 * 2 ^ ((t.n : Nat) : Int).toNat - 1 := by rw [pe]; exact Int.natCast_nonneg _
      have pe1 : (1 : Int) * 2 ^ ((t.n : Nat) : Int).toNat - 1 ≤ 9223372036854775807 := by rw [pe]; omega
      have c43 := t43 t hv (2 ^ t.n - 1) (by omega)
      rw [can_all', ← pe] at c43
      by_cases hne : t.trs = []
      · have es : spT t t.waits = (0, 0, 10) := by unfold spT; rw [if_neg (by simpa using hv), if_pos hne]
        rw [cla_is hv hne] at c30
        rw [es] at c24
        rw [hne] at c43
        dsimp only at c30 c24 c43
        refine callRK (E := E) E_ok 9 Try.func10 rfl ?_
        (repeat' (first | exact aq | refine And.intro ?_ ?_ | exact trivial))
        refine c39.use [0] ?_ (by (repeat' (first | exact fp | refine And.intro ?_ ?_))) rfl
        all_goals (repeat' (first | exact aq | refine And.intro ?_ ?_ | exact trivial))
        all_goals first | exact dd | skip
        all_goals intro h1
        all_goals first | exact absurd h1 (by decide) | (cases h1; done) | skip
        (repeat' (first | exact aq | refine And.intro ?_ ?_ | exact trivial))
        refine c30.use [0] ?_ (by (repeat' (first | exact fp | refine And.intro ?_ ?_))) rfl
        (repeat' (first | exact aq | refine And.intro ?_ ?_ | exact trivial))
        refine c24.use [0] ?_ (by (repeat' (first | exact fp | refine And.intro ?_ ?_))) rfl
        (repeat' (first | exact aq | refine And.intro ?_ ?_ | exact trivial))
        refine c40.use [0] ?_ (by (repeat' (first | exact fp | refine And.intro ?_ ?_))) rfl
        all_goals (repeat' (first | exact aq | refine And.intro ?_ ?_ | exact trivial))
        all_goals first | exact dd | skip
        all_goals intro h2
        all_goals first | exact absurd h2 (by decide) | (cases h2; done) | skip
        (repeat' (first | exact aq | refine And.intro ?_ ?_ | exact trivial))
        all_goals first | exact dd | skip
        all_goals first | ((with_reducible show (_ : Int) ≤ _); first | exact pk1 | exact pe1 | exact Int.le_trans (by decide) pk0 | exact Int.le_trans (by decide) pe0) | skip
        all_goals (repeat' (first | exact aq | refine And.intro ?_ ?_ | exact trivial))
        all_goals first | exact dd | skip
        all_goals intro g1
        all_goals first | exact absurd g1 (by decide) | (cases g1; done) | skip
        refine c43.use [0, 1] ?_ (by (repeat' (first | exact fp | refine And.intro ?_ ?_))) rfl
        all_goals (repeat' (first | exact aq | refine And.intro ?_ ?_ | exact trivial))
        all_goals first | exact dd | skip
        all_goals intro h3
        all_goals first | exact absurd h3 (by decide) | (cases h3; done) | skip
        all_goals (repeat' (first | exact aq | refine And.intro ?_ ?_ | exact trivial))
        all_goals first | exact dd | skip
        all_goals intro h4
        all_goals first | exact absurd h4 (by decide) | (cases h4; done) | skip
        (repeat' (first | exact aq | refine And.intro ?_ ?_ | exact trivial))
        all_goals first | exact dd | skip
        refine CodeP.pre ?_ (seg10a t hv hne a ha)
        refine ent_tau [0, 1] ⟨by (repeat' (first | exact fp | refine And.intro ?_ ?_)), ?_, rfl⟩
        (repeat' (first | exact tm | refine And.intro ?_ ?_))
        all_goals exact congrArg (SV.int .i64) pe
      · have hE : t.trs.isEmpty = false := by
          cases h : t.trs with
          | nil => exact absurd h hne
          | cons x l => rfl
        rw [cla_none hv hne] at c30
        rw [sp_is hv hne] at c24
        rw [hE] at c43
        dsimp only at c30 c24 c43
        refine callR (E := E) E_ok Try.func10 rfl ?_
        (repeat' (first | exact aq | refine And.intro ?_ ?_ | exact trivial))
        refine c39.use [0] ?_ (by (repeat' (first | exact fp | refine And.intro ?_ ?_))) rfl
        all_goals (repeat' (first | exact aq | refine And.intro ?_ ?_ | exact trivial))
        all_goals first | exact dd | skip
        all_goals intro h1
        all_goals first | exact absurd h1 (by decide) | (cases h1; done) | skip
        (repeat' (first | exact aq | refine And.intro ?_ ?_ | exact trivial))
        refine c30.use [0] ?_ (by (repeat' (first | exact fp | refine And.intro ?_ ?_))) rfl
        (repeat' (first | exact aq | refine And.intro ?_ ?_ | exact trivial))
        refine c24.use [0] ?_ (by (repeat' (first | exact fp | refine And.intro ?_ ?_))) rfl
        (repeat' (first | exact aq | refine And.intro ?_ ?_ | exact trivial))
        refine c40.use [0] ?_ (by (repeat' (first | exact fp | refine And.intro ?_ ?_))) rfl
        all_goals (repeat' (first | exact aq | refine And.intro ?_ ?_ | exact trivial))
        all_goals first | exact dd | skip
        all_goals intro h2
        all_goals first | exact absurd h2 (by decide) | (cases h2; done) | skip
        (repeat' (first | exact aq | refine And.intro ?_ ?_ | exact trivial))
        all_goals first | exact dd | skip
        all_goals first | ((with_reducible show (_ : Int) ≤ _); first | exact pk1 | exact pe1 | exact Int.le_trans (by decide) pk0 | exact Int.le_trans (by decide) pe0) | skip
        all_goals (repeat' (first | exact aq | refine And.intro ?_ ?_ | exact trivial))
        all_goals first | exact dd | skip
        all_goals intro g1
        all_goals first | exact absurd g1 (by decide) | (cases g1; done) | skip
        refine c43.use [0, 1] ?_ (by (repeat' (first | exact fp | refine And.intro ?_ ?_))) rfl
        all_goals (repeat' (first | exact aq | refine And.intro ?_ ?_ | exact trivial))
        all_goals first | exact dd | skip
        all_goals intro h3
        all_goals first | exact absurd h3 (by decide) | (cases h3; done) | skip
        all_goals (repeat' (first | exact aq | refine And.intro ?_ ?_ | exact trivial))
        all_goals first | exact dd | skip
        all_goals intro h4
        all_goals first | exact absurd h4 (by decide) | (cases h4; done) | skip
        (repeat' (first | exact aq | refine And.intro ?_ ?_ | exact trivial))
        all_goals first | exact dd | skip
        refine t13.use [] ?_ trivial rfl
        (repeat' (first | exact aq | refine And.intro ?_ ?_ | exact trivial))
        all_goals first | exact dd | skip
        exact ent_tau [0] ⟨by (repeat' (first | exact fp | refine And.intro ?_ ?_)), by (repeat' (first | exact tm | refine And.intro ?_ ?_)), rfl⟩
    · rw [vb_no hv] at c40
      have e30 : claT t = (0, 1) := by unfold claT; rw [if_pos hv]
      have e24 : spT t t.waits = (0, 0, 1) := by unfold spT; rw [if_pos hv]
      rw [e30] at c30
      rw [e24] at c24
      dsimp only at c30 c24
      refine callR (E := E) E_ok Try.func10 rfl ?_
      (repeat' (first | exact aq | refine And.intro ?_ ?_ | exact trivial))
      refine c39.use [0] ?_ (by (repeat' (first | exact fp | refine And.intro ?_ ?_))) rfl
      all_goals (repeat' (first | exact aq | refine And.intro ?_ ?_ | exact trivial))
      all_goals first | exact dd | skip
      all_goals intro h1
      all_goals first | exact absurd h1 (by decide) | (cases h1; done) | skip
      (repeat' (first | exact aq | refine And.intro ?_ ?_ | exact trivial))
      refine c30.use [0] ?_ (by (repeat' (first | exact fp | refine And.intro ?_ ?_))) rfl
      (repeat' (first | exact aq | refine And.intro ?_ ?_ | exact trivial))
      refine c24.use [0] ?_ (by (repeat' (first | exact fp | refine And.intro ?_ ?_))) rfl
      (repeat' (first | exact aq | refine And.intro ?_ ?_ | exact trivial))
      refine c40.use [0] ?_ (by (repeat' (first | exact fp | refine And.intro ?_ ?_))) rfl
      all_goals (repeat' (first | exact aq | refine And.intro ?_ ?_ | exact trivial))
      all_goals first | exact dd | skip
      all_goals intro h2
      all_goals first | exact absurd h2 (by decide) | (cases h2; done) | skip
      all_goals (repeat' (first | exact aq | refine And.intro ?_ ?_ | exact trivial))
      all_goals first | exact dd | skip
      all_goals intro h3
      all_goals first | exact absurd h3 (by decide) | (cases h3; done) | skip
      (repeat' (first | exact aq | refine And.intro ?_ ?_ | exact trivial))
      refine t13.use [] ?_ trivial rfl
      (repeat' (first | exact aq | refine And.intro ?_ ?_ | exact trivial))
      all_goals first | exact dd | skip
      exact ent_tau [0] ⟨by (repeat' (first | exact fp | refine And.intro ?_ ?_)), by (repeat' (first | exact tm | refine And.intro ?_ ?_)), rfl⟩
theorem t10i (t : TK) (hI : InR .i64 t.huts) (hl : t.n ≤ 9223372036854775807) (a : Int) (ha : 0 ≤ a ∧ a ≤ 255) : CallP Try.prog 10 [TA t, .int .u8 a] (TH t) (Ret (.bool true) (TH t)) := by
  obtain ⟨n, rfl⟩ : ∃ n : Nat, a = n := ⟨a.toNat, by omega⟩
  exact t10 t hI hl n (by omega)
end Go.Proofs.Ytioajogaghgipaa
