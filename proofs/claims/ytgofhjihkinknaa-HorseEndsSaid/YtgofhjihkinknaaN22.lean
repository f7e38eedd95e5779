/-
  Parts: Pj.
-/
import Derived.Test.YtgofhjihkinknaaN20
import Derived.Test.YtgofhjihkinknaaN21
import Derived.Test.YtgofhjihkinknaaN10
set_option linter.unusedVariables false
/-
  Contracts: the first set of moves of which something is so.
-/
namespace Go.Proofs.Ytgofhjihkinknaa
open Go Go.Sy Kuhn
set_option linter.unusedSimpArgs false
set_option maxRecDepth 100000
set_option maxHeartbeats 4000000
attribute [local irreducible] CallP CodeP Ent YieldP
attribute [local irreducible] HD.ch maskO

def rk (up : Bool) (n S : Nat) : Nat := match up with | true => pop S | false => n - pop S
def FirstOf (up : Bool) (n : Nat) (P : Nat → Bool) (S : Nat) : Prop := S < 2 ^ n ∧ P S = true ∧ ∀ T, T < 2 ^ n → P T = true → S = T ∨ Prior up S T
/-- The loop over a function in a piece of code: its parameters, assignments and body. -/
def findRF : Code → Option (Array Nat × Code × Code)
  | .rangeFunc _ ps a b => some (ps, a, b)
  | .seq a b => match findRF a with
    | some r => some r
    | none => findRF b
  | .block _ c => findRF c
  | .loop c => findRF c
  | .scope c => findRF c
  | _ => none
noncomputable def asOf (f : Func) : Code := match f.body with
  | some c => match findRF c with
    | some r => r.2.1
    | none => .skip
  | none => .skip
noncomputable def bodyOf (f : Func) : Code := match f.body with
  | some c => match findRF c with
    | some r => r.2.2
    | none => .skip
  | none => .skip
/-- The record of the loop in horse.first: the test lies in block 4, what is found in 6 and 7. -/
noncomputable def L72 (st : LoopState) (p : Option Code) : SObj := .loopr [none, none, none, some (.ptr 4 0), some (.ptr 6 0), some (.ptr 7 0), none, none, none, none, none, none, none, none, none] #[8] (asOf Try.f72) (bodyOf Try.f72) st p
noncomputable def B72 (h : HD) (s : Bool) (m : Int) : SHeap := HD.H h ++ [some (.roc (bc h)), some (.roc (chI fun j => (h.ch s j : Nat))), some (.roc [.int .i64 m])]
noncomputable def H72 (h : HD) (s : Bool) (m : Int) (tv : SV) (st : LoopState) (p : Option Code) (x : Nat) (f : Bool) : SHeap :=
  HD.H h ++ [some (.roc (bc h)), some (.roc (chI fun j => (h.ch s j : Nat))), some (.roc [.int .i64 m]), some (.roc [tv]), some (L72 st p), some (.cells [.int .u64 x]), some (.cells [.bool f])]
def tests (g : Nat) (caps : List SV) : Prop := (g = 74 ∧ caps = [.ptr 1 0, .ptr 2 0]) ∨ (g = 78 ∧ caps = [.ptr 2 0, .ptr 1 0, .ptr 3 0])
theorem y72 (h : HD) (s : Bool) (m : Int) (g : Nat) (caps : List SV) (hg : tests g caps) (S : Nat) (P : Bool) (hT : CallP Try.prog g (.int .u64 S :: caps) (B72 h s m) (Ret (.bool P) (B72 h s m))) :
    YieldP Try.prog 5 [.int .u64 S] (H72 h s m (.fn (.func g) [] caps) .ready none 0 false) (Ret (.bool (!P)) (H72 h s m (.fn (.func g) [] caps) (bif P then .done else .ready) (bif P then some .ret else none) (bif P then S else 0) P)) := by
  refine YieldP.ent (roundP E_ok rfl rfl fun l => ?_)
  rcases hg with ⟨rfl, rfl⟩ | ⟨rfl, rfl⟩
  all_goals (repeat' (first | exact trivial | exact fun _ => rfl | exact rfl | refine And.intro ?_ ?_))
  all_goals refine hT.use [0, 1, 2, 3] ?_ (by (repeat' (first | exact trivial | exact rfl | exact fun _ _ => rfl | exact fun _ _ _ _ => rfl | exact Or.inl rfl | exact Or.inr rfl | refine And.intro ?_ ?_))) rfl
  all_goals cases P
  all_goals (repeat' (first | exact trivial | exact fun _ => rfl | exact rfl | refine And.intro ?_ ?_))
  all_goals all_goals first | (first | omega | exact u0 (by omega) | exact u1 (by omega) | exact u1 ⟨by omega, by omega⟩ | exact un (by omega) | exact fun hh => hh | exact fun hh => absurd hh (by decide) | exact fun hh => congrArg not hh | exact fun hh => Bool.noConfusion (show true = false from hh) | exact fun hh => Bool.noConfusion (show false = true from hh)) | skip
  all_goals intro _
  all_goals (repeat' (first | exact trivial | exact fun _ => rfl | exact rfl | refine And.intro ?_ ?_))
  all_goals all_goals first | (first | omega | exact u0 (by omega) | exact u1 (by omega) | exact u1 ⟨by omega, by omega⟩ | exact un (by omega) | exact fun hh => hh | exact fun hh => absurd hh (by decide) | exact fun hh => congrArg not hh | exact fun hh => Bool.noConfusion (show true = false from hh) | exact fun hh => Bool.noConfusion (show false = true from hh)) | skip
  all_goals refine ⟨_, _, ⟨rfl, rfl⟩, ?_⟩
  all_goals exact ent_tau [0, 1, 2, 3, 4, 5, 6, 7] ⟨by (repeat' (first | exact trivial | exact rfl | exact fun _ _ => rfl | exact fun _ _ _ _ => rfl | exact Or.inl rfl | exact Or.inr rfl | refine And.intro ?_ ?_)), by (repeat' (first | exact trivial | exact rfl | exact congrArg (SV.int .i64) (Int.natCast_succ _).symm | exact congrArg (SV.int .u64) (Int.natCast_succ _).symm | refine And.intro ?_ ?_)), rfl⟩
/-- The heap of the sets' iterator. -/
noncomputable def H94 (h : HD) (s : Bool) (m : Int) (tv : SV) (up : Bool) (st : LoopState) (p : Option Code) (x : Nat) (f : Bool) : SHeap :=
  HD.H h ++ [some (.roc (bc h)), some (.roc (chI fun j => (h.ch s j : Nat))), some (.roc [.int .i64 m]), some (.roc [tv]), some (L72 st p), some (.cells [.int .u64 x]), some (.cells [.bool f]), some (.roc (bc h)), some (.roc [.bool up])]
theorem rk_le {up : Bool} {n S : Nat} (hn : n ≤ 7) (h : S < 2 ^ n) : rk up n S ≤ n := by
  have := pop_le hn h
  cases up <;> simp only [rk] <;> omega
theorem first_of {up : Bool} {n i S : Nat} {P : Nat → Bool} (hn : n ≤ 7) (h : S < 2 ^ n) (hi : rk up n S = i) (hP : P S = true) (hb : ∀ T, T < 2 ^ n → P T = true → i < rk up n T ∨ rk up n T = i ∧ S ≤ T) : FirstOf up n P S := by
  refine ⟨h, hP, fun T hT hPT => ?_⟩
  have p1 := pop_le hn h
  have p2 := pop_le hn hT
  unfold Prior
  rcases hb T hT hPT with c | ⟨c, d⟩
  · right
    left
    cases up <;> simp only [rk] at hi c ⊢ <;> omega
  · by_cases e : S = T
    · exact .inl e
    · right
      right
      cases up <;> simp only [rk] at hi c ⊢ <;> omega
theorem t94 (h : HD) (hn : h.n ≤ 7) (s : Bool) (m : Int) (g : Nat) (caps : List SV) (hg : tests g caps) (up : Bool) (P : Nat → Bool) (hT : ∀ S : Nat, S < 128 → CallP Try.prog g (.int .u64 S :: caps) (B72 h s m) (Ret (.bool (P S)) (B72 h s m)))
    (S0 : Nat) (h0 : FirstOf up h.n P S0) :
    CallP Try.prog 94 [.yld 5, .ptr 8 0, .ptr 9 0] (H94 h s m (.fn (.func g) [] caps) up .ready none 0 false) (Ret (.tup []) (H94 h s m (.fn (.func g) [] caps) up .done (some .ret) S0 true)) := by
  have hy := fun S hS => y72 h s m g caps hg S (P S) (hT S hS)
  have p2 : 2 ^ h.n ≤ 2 ^ 7 := Nat.pow_le_pow_right (by omega) hn
  have p1 := Nat.pow_pos (n := h.n) (show 0 < 2 by omega)
  have hev := HD.every_lt hn
  have ev1 : ((h.every : Nat) : Int) + 1 = ((2 ^ h.n : Nat) : Int) := by
    unfold HD.every
    omega
  rcases hg with ⟨rfl, rfl⟩ | ⟨rfl, rfl⟩ <;> cases up
  · refine callR (E := E) E_ok Try.func94 rfl ?_
    (repeat' (first | exact trivial | exact fun _ => rfl | exact rfl | refine And.intro ?_ ?_))
    all_goals first | (first | omega | exact u0 (by omega) | exact u1 (by omega) | exact u1 ⟨by omega, by omega⟩ | exact un (by omega) | exact fun hh => hh | exact fun hh => absurd hh (by decide) | exact fun hh => congrArg not hh | exact fun hh => Bool.noConfusion (show true = false from hh) | exact fun hh => Bool.noConfusion (show false = true from hh)) | skip
    refine loopP E_ok [0, 1, 2, 4, 5, 14] (fun i : Nat => [(15, .int .i64 i)]) (fun _ H => H) (fun i => i ≤ h.n + 1 ∧ ∀ T, T < 2 ^ h.n → P T = true → i ≤ rk false h.n T) (fun i => h.n + 1 - i) 0 ⟨Nat.zero_le _, fun _ _ _ => Nat.zero_le _⟩ ?_ ?_
    · exact ent_tau [0, 1, 2, 3, 4, 5, 6, 7, 8, 9] ⟨by (repeat' (first | exact trivial | exact rfl | exact fun _ _ => rfl | exact fun _ _ _ _ => rfl | exact Or.inl rfl | exact Or.inr rfl | refine And.intro ?_ ?_)), by (repeat' (first | exact trivial | exact rfl | exact congrArg (SV.int .i64) (Int.natCast_succ _).symm | exact congrArg (SV.int .u64) (Int.natCast_succ _).symm | refine And.intro ?_ ?_)), rfl⟩
    rintro i ⟨hi, hall⟩
    refine And.intro ?_ (And.intro (fun hc => ?_) (fun hc => ?_))
    · (repeat' (first | exact trivial | exact fun _ => rfl | exact rfl | refine And.intro ?_ ?_))
    · have hlt : i ≤ h.n := by
        have := of_decide_eq_true hc
        omega
      (repeat' (first | exact trivial | exact fun _ => rfl | exact rfl | refine And.intro ?_ ?_))
      all_goals first | (first | omega | exact u0 (by omega) | exact u1 (by omega) | exact u1 ⟨by omega, by omega⟩ | exact un (by omega) | exact fun hh => hh | exact fun hh => absurd hh (by decide) | exact fun hh => congrArg not hh | exact fun hh => Bool.noConfusion (show true = false from hh) | exact fun hh => Bool.noConfusion (show false = true from hh)) | skip
      intro _
      (repeat' (first | exact trivial | exact fun _ => rfl | exact rfl | refine And.intro ?_ ?_))
      all_goals first | (first | omega | exact u0 (by omega) | exact u1 (by omega) | exact u1 ⟨by omega, by omega⟩ | exact un (by omega) | exact fun hh => hh | exact fun hh => absurd hh (by decide) | exact fun hh => congrArg not hh | exact fun hh => Bool.noConfusion (show true = false from hh) | exact fun hh => Bool.noConfusion (show false = true from hh)) | skip
      refine (t67 h hn).use [0] ?_ (by (repeat' (first | exact trivial | exact rfl | exact fun _ _ => rfl | exact fun _ _ _ _ => rfl | exact Or.inl rfl | exact Or.inr rfl | refine And.intro ?_ ?_))) rfl
      (repeat' (first | exact trivial | exact fun _ => rfl | exact rfl | refine And.intro ?_ ?_))
      all_goals first | (first | omega | exact u0 (by omega) | exact u1 (by omega) | exact u1 ⟨by omega, by omega⟩ | exact un (by omega) | exact fun hh => hh | exact fun hh => absurd hh (by decide) | exact fun hh => congrArg not hh | exact fun hh => Bool.noConfusion (show true = false from hh) | exact fun hh => Bool.noConfusion (show false = true from hh)) | skip
      refine loopP E_ok [0, 1, 2, 4, 5, 6, 7, 14, 15] (fun S : Nat => [(25, .int .u64 (2 ^ h.n : Nat)), (26, .int .u64 S)]) (fun _ H => H) (fun S => S ≤ 2 ^ h.n ∧ ∀ T, T < 2 ^ h.n → P T = true → i < rk false h.n T ∨ rk false h.n T = i ∧ S ≤ T) (fun S => 2 ^ h.n - S) 0 ⟨Nat.zero_le _, fun T a b => by have := hall T a b; omega⟩ ?_ ?_
      · refine ent_tau [0, 1, 2, 3, 4, 5, 6, 7, 8, 9] ⟨by (repeat' (first | exact trivial | exact rfl | exact fun _ _ => rfl | exact fun _ _ _ _ => rfl | exact Or.inl rfl | exact Or.inr rfl | refine And.intro ?_ ?_)), ?_, rfl⟩
        (repeat' (first | exact trivial | exact rfl | exact congrArg (SV.int .i64) (Int.natCast_succ _).symm | exact congrArg (SV.int .u64) (Int.natCast_succ _).symm | refine And.intro ?_ ?_))
        exact congrArg (SV.int .u64) ev1
      rintro S ⟨hS, hal2⟩
      refine And.intro ?_ (And.intro (fun hc2 => ?_) (fun hc2 => ?_))
      · (repeat' (first | exact trivial | exact fun _ => rfl | exact rfl | refine And.intro ?_ ?_))
      · have hlt2 : S < 2 ^ h.n := by
          have := of_decide_eq_true hc2
          omega
        have hpl := pop_le hn hlt2
        have hyS := hy S (by omega)
        (repeat' (first | exact trivial | exact fun _ => rfl | exact rfl | refine And.intro ?_ ?_))
        all_goals first | (first | omega | exact u0 (by omega) | exact u1 (by omega) | exact u1 ⟨by omega, by omega⟩ | exact un (by omega) | exact fun hh => hh | exact fun hh => absurd hh (by decide) | exact fun hh => congrArg not hh | exact fun hh => Bool.noConfusion (show true = false from hh) | exact fun hh => Bool.noConfusion (show false = true from hh)) | skip
        refine (t92 S (by omega)).use [] ?_ trivial rfl
        refine And.intro ?_ (And.intro (fun hk => ?_) (fun hk => ?_))
        · (repeat' (first | exact trivial | exact fun _ => rfl | exact rfl | refine And.intro ?_ ?_))
        · have hk2 : ¬ ((pop S : Nat) : Int) = ((h.n : Nat) : Int) - (i : Nat) := by
            intro e
            have hk3 : (!decide (((pop S : Nat) : Int) = ((h.n : Nat) : Int) - (i : Nat))) = true := hk
            rw [decide_eq_true e] at hk3
            cases hk3
          (repeat' (first | exact trivial | exact fun _ => rfl | exact rfl | refine And.intro ?_ ?_))
          all_goals first | (first | omega | exact u0 (by omega) | exact u1 (by omega) | exact u1 ⟨by omega, by omega⟩ | exact un (by omega) | exact fun hh => hh | exact fun hh => absurd hh (by decide) | exact fun hh => congrArg not hh | exact fun hh => Bool.noConfusion (show true = false from hh) | exact fun hh => Bool.noConfusion (show false = true from hh)) | skip
          refine ⟨S + 1, ⟨hlt2, fun T a b => ?_⟩, by omega, ?_⟩
          · rcases hal2 T a b with c | ⟨c, d⟩
            · exact .inl c
            · refine .inr ⟨c, ?_⟩
              by_cases e : T = S
              · exfalso
                rw [e] at c
                simp only [rk] at c
                omega
              · omega
          exact ent_tau [0, 1, 2, 3, 4, 5, 6, 7, 8, 9] ⟨by (repeat' (first | exact trivial | exact rfl | exact fun _ _ => rfl | exact fun _ _ _ _ => rfl | exact Or.inl rfl | exact Or.inr rfl | refine And.intro ?_ ?_)), by (repeat' (first | exact trivial | exact rfl | exact congrArg (SV.int .i64) (Int.natCast_succ _).symm | exact congrArg (SV.int .u64) (Int.natCast_succ _).symm | refine And.intro ?_ ?_)), rfl⟩
        · have hk2 : ((pop S : Nat) : Int) = ((h.n : Nat) : Int) - (i : Nat) := by
            by_cases e : ((pop S : Nat) : Int) = ((h.n : Nat) : Int) - (i : Nat)
            · exact e
            · have hk3 : (!decide (((pop S : Nat) : Int) = ((h.n : Nat) : Int) - (i : Nat))) = false := hk
              rw [decide_eq_false e] at hk3
              cases hk3
          have hrk : rk false h.n S = i := by
            simp only [rk]
            omega
          obtain ⟨b, hb⟩ : ∃ b, P S = b := ⟨_, rfl⟩
          rw [hb] at hyS
          cases b with
          | true =>
            have hS0 : S = S0 := by
              have hf := first_of (up := false) hn hlt2 hrk hb hal2
              rcases hf.2.2 S0 h0.1 h0.2.1 with e | e
              · exact e
              · rcases h0.2.2 S hlt2 hb with e2 | e2
                · exact e2.symm
                · exfalso
                  unfold Prior at e e2
                  simp only at e e2
                  omega
            subst hS0
            (repeat' (first | exact trivial | exact fun _ => rfl | exact rfl | refine And.intro ?_ ?_))
            refine hyS.use [0, 1, 2, 3, 4, 5, 6, 7] ?_ (by (repeat' (first | exact trivial | exact rfl | exact fun _ _ => rfl | exact fun _ _ _ _ => rfl | exact Or.inl rfl | exact Or.inr rfl | refine And.intro ?_ ?_))) rfl
            (repeat' (first | exact trivial | exact fun _ => rfl | exact rfl | refine And.intro ?_ ?_))
            all_goals first | (first | omega | exact u0 (by omega) | exact u1 (by omega) | exact u1 ⟨by omega, by omega⟩ | exact un (by omega) | exact fun hh => hh | exact fun hh => absurd hh (by decide) | exact fun hh => congrArg not hh | exact fun hh => Bool.noConfusion (show true = false from hh) | exact fun hh => Bool.noConfusion (show false = true from hh)) | skip
            intro _
            (repeat' (first | exact trivial | exact fun _ => rfl | exact rfl | refine And.intro ?_ ?_))
            all_goals first | (first | omega | exact u0 (by omega) | exact u1 (by omega) | exact u1 ⟨by omega, by omega⟩ | exact un (by omega) | exact fun hh => hh | exact fun hh => absurd hh (by decide) | exact fun hh => congrArg not hh | exact fun hh => Bool.noConfusion (show true = false from hh) | exact fun hh => Bool.noConfusion (show false = true from hh)) | skip
            exact ent_tau [0, 1, 2, 3, 4, 5, 6, 7, 8, 9] ⟨by (repeat' (first | exact trivial | exact rfl | exact fun _ _ => rfl | exact fun _ _ _ _ => rfl | exact Or.inl rfl | exact Or.inr rfl | refine And.intro ?_ ?_)), by (repeat' (first | exact trivial | exact rfl | exact congrArg (SV.int .i64) (Int.natCast_succ _).symm | exact congrArg (SV.int .u64) (Int.natCast_succ _).symm | refine And.intro ?_ ?_)), rfl⟩
          | false =>
            (repeat' (first | exact trivial | exact fun _ => rfl | exact rfl | refine And.intro ?_ ?_))
            refine hyS.use [0, 1, 2, 3, 4, 5, 6, 7] ?_ (by (repeat' (first | exact trivial | exact rfl | exact fun _ _ => rfl | exact fun _ _ _ _ => rfl | exact Or.inl rfl | exact Or.inr rfl | refine And.intro ?_ ?_))) rfl
            (repeat' (first | exact trivial | exact fun _ => rfl | exact rfl | refine And.intro ?_ ?_))
            all_goals first | (first | omega | exact u0 (by omega) | exact u1 (by omega) | exact u1 ⟨by omega, by omega⟩ | exact un (by omega) | exact fun hh => hh | exact fun hh => absurd hh (by decide) | exact fun hh => congrArg not hh | exact fun hh => Bool.noConfusion (show true = false from hh) | exact fun hh => Bool.noConfusion (show false = true from hh)) | skip
            intro _
            (repeat' (first | exact trivial | exact fun _ => rfl | exact rfl | refine And.intro ?_ ?_))
            all_goals first | (first | omega | exact u0 (by omega) | exact u1 (by omega) | exact u1 ⟨by omega, by omega⟩ | exact un (by omega) | exact fun hh => hh | exact fun hh => absurd hh (by decide) | exact fun hh => congrArg not hh | exact fun hh => Bool.noConfusion (show true = false from hh) | exact fun hh => Bool.noConfusion (show false = true from hh)) | skip
            refine ⟨S + 1, ⟨hlt2, fun T a b => ?_⟩, by omega, ?_⟩
            · rcases hal2 T a b with c | ⟨c, d⟩
              · exact .inl c
              · refine .inr ⟨c, ?_⟩
                by_cases e : T = S
                · exfalso
                  rw [e, hb] at b
                  cases b
                · omega
            exact ent_tau [0, 1, 2, 3, 4, 5, 6, 7, 8, 9] ⟨by (repeat' (first | exact trivial | exact rfl | exact fun _ _ => rfl | exact fun _ _ _ _ => rfl | exact Or.inl rfl | exact Or.inr rfl | refine And.intro ?_ ?_)), by (repeat' (first | exact trivial | exact rfl | exact congrArg (SV.int .i64) (Int.natCast_succ _).symm | exact congrArg (SV.int .u64) (Int.natCast_succ _).symm | refine And.intro ?_ ?_)), rfl⟩
      · have e : S = 2 ^ h.n := by
          have := of_decide_eq_false hc2
          omega
        subst e
        (repeat' (first | exact trivial | exact fun _ => rfl | exact rfl | refine And.intro ?_ ?_))
        all_goals first | (first | omega | exact u0 (by omega) | exact u1 (by omega) | exact u1 ⟨by omega, by omega⟩ | exact un (by omega) | exact fun hh => hh | exact fun hh => absurd hh (by decide) | exact fun hh => congrArg not hh | exact fun hh => Bool.noConfusion (show true = false from hh) | exact fun hh => Bool.noConfusion (show false = true from hh)) | skip
        refine ⟨i + 1, ⟨by omega, fun T a b => ?_⟩, by omega, ?_⟩
        · rcases hal2 T a b with c | ⟨c, d⟩
          · exact c
          · omega
        exact ent_tau [0, 1, 2, 3, 4, 5, 6, 7, 8, 9] ⟨by (repeat' (first | exact trivial | exact rfl | exact fun _ _ => rfl | exact fun _ _ _ _ => rfl | exact Or.inl rfl | exact Or.inr rfl | refine And.intro ?_ ?_)), by (repeat' (first | exact trivial | exact rfl | exact congrArg (SV.int .i64) (Int.natCast_succ _).symm | exact congrArg (SV.int .u64) (Int.natCast_succ _).symm | refine And.intro ?_ ?_)), rfl⟩
    · exfalso
      have e : h.n + 1 ≤ i := by
        have := of_decide_eq_false hc
        omega
      have a := hall S0 h0.1 h0.2.1
      have b := rk_le (up := false) hn h0.1
      omega
  · refine callR (E := E) E_ok Try.func94 rfl ?_
    (repeat' (first | exact trivial | exact fun _ => rfl | exact rfl | refine And.intro ?_ ?_))
    all_goals first | (first | omega | exact u0 (by omega) | exact u1 (by omega) | exact u1 ⟨by omega, by omega⟩ | exact un (by omega) | exact fun hh => hh | exact fun hh => absurd hh (by decide) | exact fun hh => congrArg not hh | exact fun hh => Bool.noConfusion (show true = false from hh) | exact fun hh => Bool.noConfusion (show false = true from hh)) | skip
    refine loopP E_ok [0, 1, 2, 4, 5, 14] (fun i : Nat => [(15, .int .i64 i)]) (fun _ H => H) (fun i => i ≤ h.n + 1 ∧ ∀ T, T < 2 ^ h.n → P T = true → i ≤ rk true h.n T) (fun i => h.n + 1 - i) 0 ⟨Nat.zero_le _, fun _ _ _ => Nat.zero_le _⟩ ?_ ?_
    · exact ent_tau [0, 1, 2, 3, 4, 5, 6, 7, 8, 9] ⟨by (repeat' (first | exact trivial | exact rfl | exact fun _ _ => rfl | exact fun _ _ _ _ => rfl | exact Or.inl rfl | exact Or.inr rfl | refine And.intro ?_ ?_)), by (repeat' (first | exact trivial | exact rfl | exact congrArg (SV.int .i64) (Int.natCast_succ _).symm | exact congrArg (SV.int .u64) (Int.natCast_succ _).symm | refine And.intro ?_ ?_)), rfl⟩
    rintro i ⟨hi, hall⟩
    refine And.intro ?_ (And.intro (fun hc => ?_) (fun hc => ?_))
    · (repeat' (first | exact trivial | exact fun _ => rfl | exact rfl | refine And.intro ?_ ?_))
    · have hlt : i ≤ h.n := by
        have := of_decide_eq_true hc
        omega
      (repeat' (first | exact trivial | exact fun _ => rfl | exact rfl | refine And.intro ?_ ?_))
      all_goals first | (first | omega | exact u0 (by omega) | exact u1 (by omega) | exact u1 ⟨by omega, by omega⟩ | exact un (by omega) | exact fun hh => hh | exact fun hh => absurd hh (by decide) | exact fun hh => congrArg not hh | exact fun hh => Bool.noConfusion (show true = false from hh) | exact fun hh => Bool.noConfusion (show false = true from hh)) | skip
      intro _
      (repeat' (first | exact trivial | exact fun _ => rfl | exact rfl | refine And.intro ?_ ?_))
      all_goals first | (first | omega | exact u0 (by omega) | exact u1 (by omega) | exact u1 ⟨by omega, by omega⟩ | exact un (by omega) | exact fun hh => hh | exact fun hh => absurd hh (by decide) | exact fun hh => congrArg not hh | exact fun hh => Bool.noConfusion (show true = false from hh) | exact fun hh => Bool.noConfusion (show false = true from hh)) | skip
      refine (t67 h hn).use [0] ?_ (by (repeat' (first | exact trivial | exact rfl | exact fun _ _ => rfl | exact fun _ _ _ _ => rfl | exact Or.inl rfl | exact Or.inr rfl | refine And.intro ?_ ?_))) rfl
      (repeat' (first | exact trivial | exact fun _ => rfl | exact rfl | refine And.intro ?_ ?_))
      all_goals first | (first | omega | exact u0 (by omega) | exact u1 (by omega) | exact u1 ⟨by omega, by omega⟩ | exact un (by omega) | exact fun hh => hh | exact fun hh => absurd hh (by decide) | exact fun hh => congrArg not hh | exact fun hh => Bool.noConfusion (show true = false from hh) | exact fun hh => Bool.noConfusion (show false = true from hh)) | skip
      refine loopP E_ok [0, 1, 2, 4, 5, 6, 7, 14, 15] (fun S : Nat => [(25, .int .u64 (2 ^ h.n : Nat)), (26, .int .u64 S)]) (fun _ H => H) (fun S => S ≤ 2 ^ h.n ∧ ∀ T, T < 2 ^ h.n → P T = true → i < rk true h.n T ∨ rk true h.n T = i ∧ S ≤ T) (fun S => 2 ^ h.n - S) 0 ⟨Nat.zero_le _, fun T a b => by have := hall T a b; omega⟩ ?_ ?_
      · refine ent_tau [0, 1, 2, 3, 4, 5, 6, 7, 8, 9] ⟨by (repeat' (first | exact trivial | exact rfl | exact fun _ _ => rfl | exact fun _ _ _ _ => rfl | exact Or.inl rfl | exact Or.inr rfl | refine And.intro ?_ ?_)), ?_, rfl⟩
        (repeat' (first | exact trivial | exact rfl | exact congrArg (SV.int .i64) (Int.natCast_succ _).symm | exact congrArg (SV.int .u64) (Int.natCast_succ _).symm | refine And.intro ?_ ?_))
        exact congrArg (SV.int .u64) ev1
      rintro S ⟨hS, hal2⟩
      refine And.intro ?_ (And.intro (fun hc2 => ?_) (fun hc2 => ?_))
      · (repeat' (first | exact trivial | exact fun _ => rfl | exact rfl | refine And.intro ?_ ?_))
      · have hlt2 : S < 2 ^ h.n := by
          have := of_decide_eq_true hc2
          omega
        have hpl := pop_le hn hlt2
        have hyS := hy S (by omega)
        (repeat' (first | exact trivial | exact fun _ => rfl | exact rfl | refine And.intro ?_ ?_))
        all_goals first | (first | omega | exact u0 (by omega) | exact u1 (by omega) | exact u1 ⟨by omega, by omega⟩ | exact un (by omega) | exact fun hh => hh | exact fun hh => absurd hh (by decide) | exact fun hh => congrArg not hh | exact fun hh => Bool.noConfusion (show true = false from hh) | exact fun hh => Bool.noConfusion (show false = true from hh)) | skip
        refine (t92 S (by omega)).use [] ?_ trivial rfl
        refine And.intro ?_ (And.intro (fun hk => ?_) (fun hk => ?_))
        · (repeat' (first | exact trivial | exact fun _ => rfl | exact rfl | refine And.intro ?_ ?_))
        · have hk2 : ¬ ((pop S : Nat) : Int) = ((i : Nat) : Int) := by
            intro e
            have hk3 : (!decide (((pop S : Nat) : Int) = ((i : Nat) : Int))) = true := hk
            rw [decide_eq_true e] at hk3
            cases hk3
          (repeat' (first | exact trivial | exact fun _ => rfl | exact rfl | refine And.intro ?_ ?_))
          all_goals first | (first | omega | exact u0 (by omega) | exact u1 (by omega) | exact u1 ⟨by omega, by omega⟩ | exact un (by omega) | exact fun hh => hh | exact fun hh => absurd hh (by decide) | exact fun hh => congrArg not hh | exact fun hh => Bool.noConfusion (show true = false from hh) | exact fun hh => Bool.noConfusion (show false = true from hh)) | skip
          refine ⟨S + 1, ⟨hlt2, fun T a b => ?_⟩, by omega, ?_⟩
          · rcases hal2 T a b with c | ⟨c, d⟩
            · exact .inl c
            · refine .inr ⟨c, ?_⟩
              by_cases e : T = S
              · exfalso
                rw [e] at c
                simp only [rk] at c
                omega
              · omega
          exact ent_tau [0, 1, 2, 3, 4, 5, 6, 7, 8, 9] ⟨by (repeat' (first | exact trivial | exact rfl | exact fun _ _ => rfl | exact fun _ _ _ _ => rfl | exact Or.inl rfl | exact Or.inr rfl | refine And.intro ?_ ?_)), by (repeat' (first | exact trivial | exact rfl | exact congrArg (SV.int .i64) (Int.natCast_succ _).symm | exact congrArg (SV.int .u64) (Int.natCast_succ _).symm | refine And.intro ?_ ?_)), rfl⟩
        · have hk2 : ((pop S : Nat) : Int) = ((i : Nat) : Int) := by
            by_cases e : ((pop S : Nat) : Int) = ((i : Nat) : Int)
            · exact e
            · have hk3 : (!decide (((pop S : Nat) : Int) = ((i : Nat) : Int))) = false := hk
              rw [decide_eq_false e] at hk3
              cases hk3
          have hrk : rk true h.n S = i := by
            simp only [rk]
            omega
          obtain ⟨b, hb⟩ : ∃ b, P S = b := ⟨_, rfl⟩
          rw [hb] at hyS
          cases b with
          | true =>
            have hS0 : S = S0 := by
              have hf := first_of (up := true) hn hlt2 hrk hb hal2
              rcases hf.2.2 S0 h0.1 h0.2.1 with e | e
              · exact e
              · rcases h0.2.2 S hlt2 hb with e2 | e2
                · exact e2.symm
                · exfalso
                  unfold Prior at e e2
                  simp only at e e2
                  omega
            subst hS0
            (repeat' (first | exact trivial | exact fun _ => rfl | exact rfl | refine And.intro ?_ ?_))
            refine hyS.use [0, 1, 2, 3, 4, 5, 6, 7] ?_ (by (repeat' (first | exact trivial | exact rfl | exact fun _ _ => rfl | exact fun _ _ _ _ => rfl | exact Or.inl rfl | exact Or.inr rfl | refine And.intro ?_ ?_))) rfl
            (repeat' (first | exact trivial | exact fun _ => rfl | exact rfl | refine And.intro ?_ ?_))
            all_goals first | (first | omega | exact u0 (by omega) | exact u1 (by omega) | exact u1 ⟨by omega, by omega⟩ | exact un (by omega) | exact fun hh => hh | exact fun hh => absurd hh (by decide) | exact fun hh => congrArg not hh | exact fun hh => Bool.noConfusion (show true = false from hh) | exact fun hh => Bool.noConfusion (show false = true from hh)) | skip
            intro _
            (repeat' (first | exact trivial | exact fun _ => rfl | exact rfl | refine And.intro ?_ ?_))
            all_goals first | (first | omega | exact u0 (by omega) | exact u1 (by omega) | exact u1 ⟨by omega, by omega⟩ | exact un (by omega) | exact fun hh => hh | exact fun hh => absurd hh (by decide) | exact fun hh => congrArg not hh | exact fun hh => Bool.noConfusion (show true = false from hh) | exact fun hh => Bool.noConfusion (show false = true from hh)) | skip
            exact ent_tau [0, 1, 2, 3, 4, 5, 6, 7, 8, 9] ⟨by (repeat' (first | exact trivial | exact rfl | exact fun _ _ => rfl | exact fun _ _ _ _ => rfl | exact Or.inl rfl | exact Or.inr rfl | refine And.intro ?_ ?_)), by (repeat' (first | exact trivial | exact rfl | exact congrArg (SV.int .i64) (Int.natCast_succ _).symm | exact congrArg (SV.int .u64) (Int.natCast_succ _).symm | refine And.intro ?_ ?_)), rfl⟩
          | false =>
            (repeat' (first | exact trivial | exact fun _ => rfl | exact rfl | refine And.intro ?_ ?_))
            refine hyS.use [0, 1, 2, 3, 4, 5, 6, 7] ?_ (by (repeat' (first | exact trivial | exact rfl | exact fun _ _ => rfl | exact fun _ _ _ _ => rfl | exact Or.inl rfl | exact Or.inr rfl | refine And.intro ?_ ?_))) rfl
            (repeat' (first | exact trivial | exact fun _ => rfl | exact rfl | refine And.intro ?_ ?_))
            all_goals first | (first | omega | exact u0 (by omega) | exact u1 (by omega) | exact u1 ⟨by omega, by omega⟩ | exact un (by omega) | exact fun hh => hh | exact fun hh => absurd hh (by decide) | exact fun hh => congrArg not hh | exact fun hh => Bool.noConfusion (show true = false from hh) | exact fun hh => Bool.noConfusion (show false = true from hh)) | skip
            intro _
            (repeat' (first | exact trivial | exact fun _ => rfl | exact rfl | refine And.intro ?_ ?_))
            all_goals first | (first | omega | exact u0 (by omega) | exact u1 (by omega) | exact u1 ⟨by omega, by omega⟩ | exact un (by omega) | exact fun hh => hh | exact fun hh => absurd hh (by decide) | exact fun hh => congrArg not hh | exact fun hh => Bool.noConfusion (show true = false from hh) | exact fun hh => Bool.noConfusion (show false = true from hh)) | skip
            refine ⟨S + 1, ⟨hlt2, fun T a b => ?_⟩, by omega, ?_⟩
            · rcases hal2 T a b with c | ⟨c, d⟩
              · exact .inl c
              · refine .inr ⟨c, ?_⟩
                by_cases e : T = S
                · exfalso
                  rw [e, hb] at b
                  cases b
                · omega
            exact ent_tau [0, 1, 2, 3, 4, 5, 6, 7, 8, 9] ⟨by (repeat' (first | exact trivial | exact rfl | exact fun _ _ => rfl | exact fun _ _ _ _ => rfl | exact Or.inl rfl | exact Or.inr rfl | refine And.intro ?_ ?_)), by (repeat' (first | exact trivial | exact rfl | exact congrArg (SV.int .i64) (Int.natCast_succ _).symm | exact congrArg (SV.int .u64) (Int.natCast_succ _).symm | refine And.intro ?_ ?_)), rfl⟩
      · have e : S = 2 ^ h.n := by
          have := of_decide_eq_false hc2
          omega
        subst e
        (repeat' (first | exact trivial | exact fun _ => rfl | exact rfl | refine And.intro ?_ ?_))
        all_goals first | (first | omega | exact u0 (by omega) | exact u1 (by omega) | exact u1 ⟨by omega, by omega⟩ | exact un (by omega) | exact fun hh => hh | exact fun hh => absurd hh (by decide) | exact fun hh => congrArg not hh | exact fun hh => Bool.noConfusion (show true = false from hh) | exact fun hh => Bool.noConfusion (show false = true from hh)) | skip
        refine ⟨i + 1, ⟨by omega, fun T a b => ?_⟩, by omega, ?_⟩
        · rcases hal2 T a b with c | ⟨c, d⟩
          · exact c
          · omega
        exact ent_tau [0, 1, 2, 3, 4, 5, 6, 7, 8, 9] ⟨by (repeat' (first | exact trivial | exact rfl | exact fun _ _ => rfl | exact fun _ _ _ _ => rfl | exact Or.inl rfl | exact Or.inr rfl | refine And.intro ?_ ?_)), by (repeat' (first | exact trivial | exact rfl | exact congrArg (SV.int .i64) (Int.natCast_succ _).symm | exact congrArg (SV.int .u64) (Int.natCast_succ _).symm | refine And.intro ?_ ?_)), rfl⟩
    · exfalso
      have e : h.n + 1 ≤ i := by
        have := of_decide_eq_false hc
        omega
      have a := hall S0 h0.1 h0.2.1
      have b := rk_le (up := true) hn h0.1
      omega
  · refine callR (E := E) E_ok Try.func94 rfl ?_
    (repeat' (first | exact trivial | exact fun _ => rfl | exact rfl | refine And.intro ?_ ?_))
    all_goals first | (first | omega | exact u0 (by omega) | exact u1 (by omega) | exact u1 ⟨by omega, by omega⟩ | exact un (by omega) | exact fun hh => hh | exact fun hh => absurd hh (by decide) | exact fun hh => congrArg not hh | exact fun hh => Bool.noConfusion (show true = false from hh) | exact fun hh => Bool.noConfusion (show false = true from hh)) | skip
    refine loopP E_ok [0, 1, 2, 4, 5, 14] (fun i : Nat => [(15, .int .i64 i)]) (fun _ H => H) (fun i => i ≤ h.n + 1 ∧ ∀ T, T < 2 ^ h.n → P T = true → i ≤ rk false h.n T) (fun i => h.n + 1 - i) 0 ⟨Nat.zero_le _, fun _ _ _ => Nat.zero_le _⟩ ?_ ?_
    · exact ent_tau [0, 1, 2, 3, 4, 5, 6, 7, 8, 9] ⟨by (repeat' (first | exact trivial | exact rfl | exact fun _ _ => rfl | exact fun _ _ _ _ => rfl | exact Or.inl rfl | exact Or.inr rfl | refine And.intro ?_ ?_)), by (repeat' (first | exact trivial | exact rfl | exact congrArg (SV.int .i64) (Int.natCast_succ _).symm | exact congrArg (SV.int .u64) (Int.natCast_succ _).symm | refine And.intro ?_ ?_)), rfl⟩
    rintro i ⟨hi, hall⟩
    refine And.intro ?_ (And.intro (fun hc => ?_) (fun hc => ?_))
    · (repeat' (first | exact trivial | exact fun _ => rfl | exact rfl | refine And.intro ?_ ?_))
    · have hlt : i ≤ h.n := by
        have := of_decide_eq_true hc
        omega
      (repeat' (first | exact trivial | exact fun _ => rfl | exact rfl | refine And.intro ?_ ?_))
      all_goals first | (first | omega | exact u0 (by omega) | exact u1 (by omega) | exact u1 ⟨by omega, by omega⟩ | exact un (by omega) | exact fun hh => hh | exact fun hh => absurd hh (by decide) | exact fun hh => congrArg not hh | exact fun hh => Bool.noConfusion (show true = false from hh) | exact fun hh => Bool.noConfusion (show false = true from hh)) | skip
      intro _
      (repeat' (first | exact trivial | exact fun _ => rfl | exact rfl | refine And.intro ?_ ?_))
      all_goals first | (first | omega | exact u0 (by omega) | exact u1 (by omega) | exact u1 ⟨by omega, by omega⟩ | exact un (by omega) | exact fun hh => hh | exact fun hh => absurd hh (by decide) | exact fun hh => congrArg not hh | exact fun hh => Bool.noConfusion (show true = false from hh) | exact fun hh => Bool.noConfusion (show false = true from hh)) | skip
      refine (t67 h hn).use [0] ?_ (by (repeat' (first | exact trivial | exact rfl | exact fun _ _ => rfl | exact fun _ _ _ _ => rfl | exact Or.inl rfl | exact Or.inr rfl | refine And.intro ?_ ?_))) rfl
      (repeat' (first | exact trivial | exact fun _ => rfl | exact rfl | refine And.intro ?_ ?_))
      all_goals first | (first | omega | exact u0 (by omega) | exact u1 (by omega) | exact u1 ⟨by omega, by omega⟩ | exact un (by omega) | exact fun hh => hh | exact fun hh => absurd hh (by decide) | exact fun hh => congrArg not hh | exact fun hh => Bool.noConfusion (show true = false from hh) | exact fun hh => Bool.noConfusion (show false = true from hh)) | skip
      refine loopP E_ok [0, 1, 2, 4, 5, 6, 7, 14, 15] (fun S : Nat => [(25, .int .u64 (2 ^ h.n : Nat)), (26, .int .u64 S)]) (fun _ H => H) (fun S => S ≤ 2 ^ h.n ∧ ∀ T, T < 2 ^ h.n → P T = true → i < rk false h.n T ∨ rk false h.n T = i ∧ S ≤ T) (fun S => 2 ^ h.n - S) 0 ⟨Nat.zero_le _, fun T a b => by have := hall T a b; omega⟩ ?_ ?_
      · refine ent_tau [0, 1, 2, 3, 4, 5, 6, 7, 8, 9] ⟨by (repeat' (first | exact trivial | exact rfl | exact fun _ _ => rfl | exact fun _ _ _ _ => rfl | exact Or.inl rfl | exact Or.inr rfl | refine And.intro ?_ ?_)), ?_, rfl⟩
        (repeat' (first | exact trivial | exact rfl | exact congrArg (SV.int .i64) (Int.natCast_succ _).symm | exact congrArg (SV.int .u64) (Int.natCast_succ _).symm | refine And.intro ?_ ?_))
        exact congrArg (SV.int .u64) ev1
      rintro S ⟨hS, hal2⟩
      refine And.intro ?_ (And.intro (fun hc2 => ?_) (fun hc2 => ?_))
      · (repeat' (first | exact trivial | exact fun _ => rfl | exact rfl | refine And.intro ?_ ?_))
      · have hlt2 : S < 2 ^ h.n := by
          have := of_decide_eq_true hc2
          omega
        have hpl := pop_le hn hlt2
        have hyS := hy S (by omega)
        (repeat' (first | exact trivial | exact fun _ => rfl | exact rfl | refine And.intro ?_ ?_))
        all_goals first | (first | omega | exact u0 (by omega) | exact u1 (by omega) | exact u1 ⟨by omega, by omega⟩ | exact un (by omega) | exact fun hh => hh | exact fun hh => absurd hh (by decide) | exact fun hh => congrArg not hh | exact fun hh => Bool.noConfusion (show true = false from hh) | exact fun hh => Bool.noConfusion (show false = true from hh)) | skip
        refine (t92 S (by omega)).use [] ?_ trivial rfl
        refine And.intro ?_ (And.intro (fun hk => ?_) (fun hk => ?_))
        · (repeat' (first | exact trivial | exact fun _ => rfl | exact rfl | refine And.intro ?_ ?_))
        · have hk2 : ¬ ((pop S : Nat) : Int) = ((h.n : Nat) : Int) - (i : Nat) := by
            intro e
            have hk3 : (!decide (((pop S : Nat) : Int) = ((h.n : Nat) : Int) - (i : Nat))) = true := hk
            rw [decide_eq_true e] at hk3
            cases hk3
          (repeat' (first | exact trivial | exact fun _ => rfl | exact rfl | refine And.intro ?_ ?_))
          all_goals first | (first | omega | exact u0 (by omega) | exact u1 (by omega) | exact u1 ⟨by omega, by omega⟩ | exact un (by omega) | exact fun hh => hh | exact fun hh => absurd hh (by decide) | exact fun hh => congrArg not hh | exact fun hh => Bool.noConfusion (show true = false from hh) | exact fun hh => Bool.noConfusion (show false = true from hh)) | skip
          refine ⟨S + 1, ⟨hlt2, fun T a b => ?_⟩, by omega, ?_⟩
          · rcases hal2 T a b with c | ⟨c, d⟩
            · exact .inl c
            · refine .inr ⟨c, ?_⟩
              by_cases e : T = S
              · exfalso
                rw [e] at c
                simp only [rk] at c
                omega
              · omega
          exact ent_tau [0, 1, 2, 3, 4, 5, 6, 7, 8, 9] ⟨by (repeat' (first | exact trivial | exact rfl | exact fun _ _ => rfl | exact fun _ _ _ _ => rfl | exact Or.inl rfl | exact Or.inr rfl | refine And.intro ?_ ?_)), by (repeat' (first | exact trivial | exact rfl | exact congrArg (SV.int .i64) (Int.natCast_succ _).symm | exact congrArg (SV.int .u64) (Int.natCast_succ _).symm | refine And.intro ?_ ?_)), rfl⟩
        · have hk2 : ((pop S : Nat) : Int) = ((h.n : Nat) : Int) - (i : Nat) := by
            by_cases e : ((pop S : Nat) : Int) = ((h.n : Nat) : Int) - (i : Nat)
            · exact e
            · have hk3 : (!decide (((pop S : Nat) : Int) = ((h.n : Nat) : Int) - (i : Nat))) = false := hk
              rw [decide_eq_false e] at hk3
              cases hk3
          have hrk : rk false h.n S = i := by
            simp only [rk]
            omega
          obtain ⟨b, hb⟩ : ∃ b, P S = b := ⟨_, rfl⟩
          rw [hb] at hyS
          cases b with
          | true =>
            have hS0 : S = S0 := by
              have hf := first_of (up := false) hn hlt2 hrk hb hal2
              rcases hf.2.2 S0 h0.1 h0.2.1 with e | e
              · exact e
              · rcases h0.2.2 S hlt2 hb with e2 | e2
                · exact e2.symm
                · exfalso
                  unfold Prior at e e2
                  simp only at e e2
                  omega
            subst hS0
            (repeat' (first | exact trivial | exact fun _ => rfl | exact rfl | refine And.intro ?_ ?_))
            refine hyS.use [0, 1, 2, 3, 4, 5, 6, 7] ?_ (by (repeat' (first | exact trivial | exact rfl | exact fun _ _ => rfl | exact fun _ _ _ _ => rfl | exact Or.inl rfl | exact Or.inr rfl | refine And.intro ?_ ?_))) rfl
            (repeat' (first | exact trivial | exact fun _ => rfl | exact rfl | refine And.intro ?_ ?_))
            all_goals first | (first | omega | exact u0 (by omega) | exact u1 (by omega) | exact u1 ⟨by omega, by omega⟩ | exact un (by omega) | exact fun hh => hh | exact fun hh => absurd hh (by decide) | exact fun hh => congrArg not hh | exact fun hh => Bool.noConfusion (show true = false from hh) | exact fun hh => Bool.noConfusion (show false = true from hh)) | skip
            intro _
            (repeat' (first | exact trivial | exact fun _ => rfl | exact rfl | refine And.intro ?_ ?_))
            all_goals first | (first | omega | exact u0 (by omega) | exact u1 (by omega) | exact u1 ⟨by omega, by omega⟩ | exact un (by omega) | exact fun hh => hh | exact fun hh => absurd hh (by decide) | exact fun hh => congrArg not hh | exact fun hh => Bool.noConfusion (show true = false from hh) | exact fun hh => Bool.noConfusion (show false = true from hh)) | skip
            exact ent_tau [0, 1, 2, 3, 4, 5, 6, 7, 8, 9] ⟨by (repeat' (first | exact trivial | exact rfl | exact fun _ _ => rfl | exact fun _ _ _ _ => rfl | exact Or.inl rfl | exact Or.inr rfl | refine And.intro ?_ ?_)), by (repeat' (first | exact trivial | exact rfl | exact congrArg (SV.int .i64) (Int.natCast_succ _).symm | exact congrArg (SV.int .u64) (Int.natCast_succ _).symm | refine And.intro ?_ ?_)), rfl⟩
          | false =>
            (repeat' (first | exact trivial | exact fun _ => rfl | exact rfl | refine And.intro ?_ ?_))
            refine hyS.use [0, 1, 2, 3, 4, 5, 6, 7] ?_ (by (repeat' (first | exact trivial | exact rfl | exact fun _ _ => rfl | exact fun _ _ _ _ => rfl | exact Or.inl rfl | exact Or.inr rfl | refine And.intro ?_ ?_))) rfl
            (repeat' (first | exact trivial | exact fun _ => rfl | exact rfl | refine And.intro ?_ ?_))
            all_goals first | (first | omega | exact u0 (by omega) | exact u1 (by omega) | exact u1 ⟨by omega, by omega⟩ | exact un (by omega) | exact fun hh => hh | exact fun hh => absurd hh (by decide) | exact fun hh => congrArg not hh | exact fun hh => Bool.noConfusion (show true = false from hh) | exact fun hh => Bool.noConfusion (show false = true from hh)) | skip
            intro _
            (repeat' (first | exact trivial | exact fun _ => rfl | exact rfl | refine And.intro ?_ ?_))
            all_goals first | (first | omega | exact u0 (by omega) | exact u1 (by omega) | exact u1 ⟨by omega, by omega⟩ | exact un (by omega) | exact fun hh => hh | exact fun hh => absurd hh (by decide) | exact fun hh => congrArg not hh | exact fun hh => Bool.noConfusion (show true = false from hh) | exact fun hh => Bool.noConfusion (show false = true from hh)) | skip
            refine ⟨S + 1, ⟨hlt2, fun T a b => ?_⟩, by omega, ?_⟩
            · rcases hal2 T a b with c | ⟨c, d⟩
              · exact .inl c
              · refine .inr ⟨c, ?_⟩
                by_cases e : T = S
                · exfalso
                  rw [e, hb] at b
                  cases b
                · omega
            exact ent_tau [0, 1, 2, 3, 4, 5, 6, 7, 8, 9] ⟨by (repeat' (first | exact trivial | exact rfl | exact fun _ _ => rfl | exact fun _ _ _ _ => rfl | exact Or.inl rfl | exact Or.inr rfl | refine And.intro ?_ ?_)), by (repeat' (first | exact trivial | exact rfl | exact congrArg (SV.int .i64) (Int.natCast_succ _).symm | exact congrArg (SV.int .u64) (Int.natCast_succ _).symm | refine And.intro ?_ ?_)), rfl⟩
      · have e : S = 2 ^ h.n := by
          have := of_decide_eq_false hc2
          omega
        subst e
        (repeat' (first | exact trivial | exact fun _ => rfl | exact rfl | refine And.intro ?_ ?_))
        all_goals first | (first | omega | exact u0 (by omega) | exact u1 (by omega) | exact u1 ⟨by omega, by omega⟩ | exact un (by omega) | exact fun hh => hh | exact fun hh => absurd hh (by decide) | exact fun hh => congrArg not hh | exact fun hh => Bool.noConfusion (show true = false from hh) | exact fun hh => Bool.noConfusion (show false = true from hh)) | skip
        refine ⟨i + 1, ⟨by omega, fun T a b => ?_⟩, by omega, ?_⟩
        · rcases hal2 T a b with c | ⟨c, d⟩
          · exact c
          · omega
        exact ent_tau [0, 1, 2, 3, 4, 5, 6, 7, 8, 9] ⟨by (repeat' (first | exact trivial | exact rfl | exact fun _ _ => rfl | exact fun _ _ _ _ => rfl | exact Or.inl rfl | exact Or.inr rfl | refine And.intro ?_ ?_)), by (repeat' (first | exact trivial | exact rfl | exact congrArg (SV.int .i64) (Int.natCast_succ _).symm | exact congrArg (SV.int .u64) (Int.natCast_succ _).symm | refine And.intro ?_ ?_)), rfl⟩
    · exfalso
      have e : h.n + 1 ≤ i := by
        have := of_decide_eq_false hc
        omega
      have a := hall S0 h0.1 h0.2.1
      have b := rk_le (up := false) hn h0.1
      omega
  · refine callR (E := E) E_ok Try.func94 rfl ?_
    (repeat' (first | exact trivial | exact fun _ => rfl | exact rfl | refine And.intro ?_ ?_))
    all_goals first | (first | omega | exact u0 (by omega) | exact u1 (by omega) | exact u1 ⟨by omega, by omega⟩ | exact un (by omega) | exact fun hh => hh | exact fun hh => absurd hh (by decide) | exact fun hh => congrArg not hh | exact fun hh => Bool.noConfusion (show true = false from hh) | exact fun hh => Bool.noConfusion (show false = true from hh)) | skip
    refine loopP E_ok [0, 1, 2, 4, 5, 14] (fun i : Nat => [(15, .int .i64 i)]) (fun _ H => H) (fun i => i ≤ h.n + 1 ∧ ∀ T, T < 2 ^ h.n → P T = true → i ≤ rk true h.n T) (fun i => h.n + 1 - i) 0 ⟨Nat.zero_le _, fun _ _ _ => Nat.zero_le _⟩ ?_ ?_
    · exact ent_tau [0, 1, 2, 3, 4, 5, 6, 7, 8, 9] ⟨by (repeat' (first | exact trivial | exact rfl | exact fun _ _ => rfl | exact fun _ _ _ _ => rfl | exact Or.inl rfl | exact Or.inr rfl | refine And.intro ?_ ?_)), by (repeat' (first | exact trivial | exact rfl | exact congrArg (SV.int .i64) (Int.natCast_succ _).symm | exact congrArg (SV.int .u64) (Int.natCast_succ _).symm | refine And.intro ?_ ?_)), rfl⟩
    rintro i ⟨hi, hall⟩
    refine And.intro ?_ (And.intro (fun hc => ?_) (fun hc => ?_))
    · (repeat' (first | exact trivial | exact fun _ => rfl | exact rfl | refine And.intro ?_ ?_))
    · have hlt : i ≤ h.n := by
        have := of_decide_eq_true hc
        omega
      (repeat' (first | exact trivial | exact fun _ => rfl | exact rfl | refine And.intro ?_ ?_))
      all_goals first | (first | omega | exact u0 (by omega) | exact u1 (by omega) | exact u1 ⟨by omega, by omega⟩ | exact un (by omega) | exact fun hh => hh | exact fun hh => absurd hh (by decide) | exact fun hh => congrArg not hh | exact fun hh => Bool.noConfusion (show true = false from hh) | exact fun hh => Bool.noConfusion (show false = true from hh)) | skip
      intro _
      (repeat' (first | exact trivial | exact fun _ => rfl | exact rfl | refine And.intro ?_ ?_))
      all_goals first | (first | omega | exact u0 (by omega) | exact u1 (by omega) | exact u1 ⟨by omega, by omega⟩ | exact un (by omega) | exact fun hh => hh | exact fun hh => absurd hh (by decide) | exact fun hh => congrArg not hh | exact fun hh => Bool.noConfusion (show true = false from hh) | exact fun hh => Bool.noConfusion (show false = true from hh)) | skip
      refine (t67 h hn).use [0] ?_ (by (repeat' (first | exact trivial | exact rfl | exact fun _ _ => rfl | exact fun _ _ _ _ => rfl | exact Or.inl rfl | exact Or.inr rfl | refine And.intro ?_ ?_))) rfl
      (repeat' (first | exact trivial | exact fun _ => rfl | exact rfl | refine And.intro ?_ ?_))
      all_goals first | (first | omega | exact u0 (by omega) | exact u1 (by omega) | exact u1 ⟨by omega, by omega⟩ | exact un (by omega) | exact fun hh => hh | exact fun hh => absurd hh (by decide) | exact fun hh => congrArg not hh | exact fun hh => Bool.noConfusion (show true = false from hh) | exact fun hh => Bool.noConfusion (show false = true from hh)) | skip
      refine loopP E_ok [0, 1, 2, 4, 5, 6, 7, 14, 15] (fun S : Nat => [(25, .int .u64 (2 ^ h.n : Nat)), (26, .int .u64 S)]) (fun _ H => H) (fun S => S ≤ 2 ^ h.n ∧ ∀ T, T < 2 ^ h.n → P T = true → i < rk true h.n T ∨ rk true h.n T = i ∧ S ≤ T) (fun S => 2 ^ h.n - S) 0 ⟨Nat.zero_le _, fun T a b => by have := hall T a b; omega⟩ ?_ ?_
      · refine ent_tau [0, 1, 2, 3, 4, 5, 6, 7, 8, 9] ⟨by (repeat' (first | exact trivial | exact rfl | exact fun _ _ => rfl | exact fun _ _ _ _ => rfl | exact Or.inl rfl | exact Or.inr rfl | refine And.intro ?_ ?_)), ?_, rfl⟩
        (repeat' (first | exact trivial | exact rfl | exact congrArg (SV.int .i64) (Int.natCast_succ _).symm | exact congrArg (SV.int .u64) (Int.natCast_succ _).symm | refine And.intro ?_ ?_))
        exact congrArg (SV.int .u64) ev1
      rintro S ⟨hS, hal2⟩
      refine And.intro ?_ (And.intro (fun hc2 => ?_) (fun hc2 => ?_))
      · (repeat' (first | exact trivial | exact fun _ => rfl | exact rfl | refine And.intro ?_ ?_))
      · have hlt2 : S < 2 ^ h.n := by
          have := of_decide_eq_true hc2
          omega
        have hpl := pop_le hn hlt2
        have hyS := hy S (by omega)
        (repeat' (first | exact trivial | exact fun _ => rfl | exact rfl | refine And.intro ?_ ?_))
        all_goals first | (first | omega | exact u0 (by omega) | exact u1 (by omega) | exact u1 ⟨by omega, by omega⟩ | exact un (by omega) | exact fun hh => hh | exact fun hh => absurd hh (by decide) | exact fun hh => congrArg not hh | exact fun hh => Bool.noConfusion (show true = false from hh) | exact fun hh => Bool.noConfusion (show false = true from hh)) | skip
        refine (t92 S (by omega)).use [] ?_ trivial rfl
        refine And.intro ?_ (And.intro (fun hk => ?_) (fun hk => ?_))
        · (repeat' (first | exact trivial | exact fun _ => rfl | exact rfl | refine And.intro ?_ ?_))
        · have hk2 : ¬ ((pop S : Nat) : Int) = ((i : Nat) : Int) := by
            intro e
            have hk3 : (!decide (((pop S : Nat) : Int) = ((i : Nat) : Int))) = true := hk
            rw [decide_eq_true e] at hk3
            cases hk3
          (repeat' (first | exact trivial | exact fun _ => rfl | exact rfl | refine And.intro ?_ ?_))
          all_goals first | (first | omega | exact u0 (by omega) | exact u1 (by omega) | exact u1 ⟨by omega, by omega⟩ | exact un (by omega) | exact fun hh => hh | exact fun hh => absurd hh (by decide) | exact fun hh => congrArg not hh | exact fun hh => Bool.noConfusion (show true = false from hh) | exact fun hh => Bool.noConfusion (show false = true from hh)) | skip
          refine ⟨S + 1, ⟨hlt2, fun T a b => ?_⟩, by omega, ?_⟩
          · rcases hal2 T a b with c | ⟨c, d⟩
            · exact .inl c
            · refine .inr ⟨c, ?_⟩
              by_cases e : T = S
              · exfalso
                rw [e] at c
                simp only [rk] at c
                omega
              · omega
          exact ent_tau [0, 1, 2, 3, 4, 5, 6, 7, 8, 9] ⟨by (repeat' (first | exact trivial | exact rfl | exact fun _ _ => rfl | exact fun _ _ _ _ => rfl | exact Or.inl rfl | exact Or.inr rfl | refine And.intro ?_ ?_)), by (repeat' (first | exact trivial | exact rfl | exact congrArg (SV.int .i64) (Int.natCast_succ _).symm | exact congrArg (SV.int .u64) (Int.natCast_succ _).symm | refine And.intro ?_ ?_)), rfl⟩
        · have hk2 : ((pop S : Nat) : Int) = ((i : Nat) : Int) := by
            by_cases e : ((pop S : Nat) : Int) = ((i : Nat) : Int)
            · exact e
            · have hk3 : (!decide (((pop S : Nat) : Int) = ((i : Nat) : Int))) = false := hk
              rw [decide_eq_false e] at hk3
              cases hk3
          have hrk : rk true h.n S = i := by
            simp only [rk]
            omega
          obtain ⟨b, hb⟩ : ∃ b, P S = b := ⟨_, rfl⟩
          rw [hb] at hyS
          cases b with
          | true =>
            have hS0 : S = S0 := by
              have hf := first_of (up := true) hn hlt2 hrk hb hal2
              rcases hf.2.2 S0 h0.1 h0.2.1 with e | e
              · exact e
              · rcases h0.2.2 S hlt2 hb with e2 | e2
                · exact e2.symm
                · exfalso
                  unfold Prior at e e2
                  simp only at e e2
                  omega
            subst hS0
            (repeat' (first | exact trivial | exact fun _ => rfl | exact rfl | refine And.intro ?_ ?_))
            refine hyS.use [0, 1, 2, 3, 4, 5, 6, 7] ?_ (by (repeat' (first | exact trivial | exact rfl | exact fun _ _ => rfl | exact fun _ _ _ _ => rfl | exact Or.inl rfl | exact Or.inr rfl | refine And.intro ?_ ?_))) rfl
            (repeat' (first | exact trivial | exact fun _ => rfl | exact rfl | refine And.intro ?_ ?_))
            all_goals first | (first | omega | exact u0 (by omega) | exact u1 (by omega) | exact u1 ⟨by omega, by omega⟩ | exact un (by omega) | exact fun hh => hh | exact fun hh => absurd hh (by decide) | exact fun hh => congrArg not hh | exact fun hh => Bool.noConfusion (show true = false from hh) | exact fun hh => Bool.noConfusion (show false = true from hh)) | skip
            intro _
            (repeat' (first | exact trivial | exact fun _ => rfl | exact rfl | refine And.intro ?_ ?_))
            all_goals first | (first | omega | exact u0 (by omega) | exact u1 (by omega) | exact u1 ⟨by omega, by omega⟩ | exact un (by omega) | exact fun hh => hh | exact fun hh => absurd hh (by decide) | exact fun hh => congrArg not hh | exact fun hh => Bool.noConfusion (show true = false from hh) | exact fun hh => Bool.noConfusion (show false = true from hh)) | skip
            exact ent_tau [0, 1, 2, 3, 4, 5, 6, 7, 8, 9] ⟨by (repeat' (first | exact trivial | exact rfl | exact fun _ _ => rfl | exact fun _ _ _ _ => rfl | exact Or.inl rfl | exact Or.inr rfl | refine And.intro ?_ ?_)), by (repeat' (first | exact trivial | exact rfl | exact congrArg (SV.int .i64) (Int.natCast_succ _).symm | exact congrArg (SV.int .u64) (Int.natCast_succ _).symm | refine And.intro ?_ ?_)), rfl⟩
          | false =>
            (repeat' (first | exact trivial | exact fun _ => rfl | exact rfl | refine And.intro ?_ ?_))
            refine hyS.use [0, 1, 2, 3, 4, 5, 6, 7] ?_ (by (repeat' (first | exact trivial | exact rfl | exact fun _ _ => rfl | exact fun _ _ _ _ => rfl | exact Or.inl rfl | exact Or.inr rfl | refine And.intro ?_ ?_))) rfl
            (repeat' (first | exact trivial | exact fun _ => rfl | exact rfl | refine And.intro ?_ ?_))
            all_goals first | (first | omega | exact u0 (by omega) | exact u1 (by omega) | exact u1 ⟨by omega, by omega⟩ | exact un (by omega) | exact fun hh => hh | exact fun hh => absurd hh (by decide) | exact fun hh => congrArg not hh | exact fun hh => Bool.noConfusion (show true = false from hh) | exact fun hh => Bool.noConfusion (show false = true from hh)) | skip
            intro _
            (repeat' (first | exact trivial | exact fun _ => rfl | exact rfl | refine And.intro ?_ ?_))
            all_goals first | (first | omega | exact u0 (by omega) | exact u1 (by omega) | exact u1 ⟨by omega, by omega⟩ | exact un (by omega) | exact fun hh => hh | exact fun hh => absurd hh (by decide) | exact fun hh => congrArg not hh | exact fun hh => Bool.noConfusion (show true = false from hh) | exact fun hh => Bool.noConfusion (show false = true from hh)) | skip
            refine ⟨S + 1, ⟨hlt2, fun T a b => ?_⟩, by omega, ?_⟩
            · rcases hal2 T a b with c | ⟨c, d⟩
              · exact .inl c
              · refine .inr ⟨c, ?_⟩
                by_cases e : T = S
                · exfalso
                  rw [e, hb] at b
                  cases b
                · omega
            exact ent_tau [0, 1, 2, 3, 4, 5, 6, 7, 8, 9] ⟨by (repeat' (first | exact trivial | exact rfl | exact fun _ _ => rfl | exact fun _ _ _ _ => rfl | exact Or.inl rfl | exact Or.inr rfl | refine And.intro ?_ ?_)), by (repeat' (first | exact trivial | exact rfl | exact congrArg (SV.int .i64) (Int.natCast_succ _).symm | exact congrArg (SV.int .u64) (Int.natCast_succ _).symm | refine And.intro ?_ ?_)), rfl⟩
      · have e : S = 2 ^ h.n := by
          have := of_decide_eq_false hc2
          omega
        subst e
        (repeat' (first | exact trivial | exact fun _ => rfl | exact rfl | refine And.intro ?_ ?_))
        all_goals first | (first | omega | exact u0 (by omega) | exact u1 (by omega) | exact u1 ⟨by omega, by omega⟩ | exact un (by omega) | exact fun hh => hh | exact fun hh => absurd hh (by decide) | exact fun hh => congrArg not hh | exact fun hh => Bool.noConfusion (show true = false from hh) | exact fun hh => Bool.noConfusion (show false = true from hh)) | skip
        refine ⟨i + 1, ⟨by omega, fun T a b => ?_⟩, by omega, ?_⟩
        · rcases hal2 T a b with c | ⟨c, d⟩
          · exact c
          · omega
        exact ent_tau [0, 1, 2, 3, 4, 5, 6, 7, 8, 9] ⟨by (repeat' (first | exact trivial | exact rfl | exact fun _ _ => rfl | exact fun _ _ _ _ => rfl | exact Or.inl rfl | exact Or.inr rfl | refine And.intro ?_ ?_)), by (repeat' (first | exact trivial | exact rfl | exact congrArg (SV.int .i64) (Int.natCast_succ _).symm | exact congrArg (SV.int .u64) (Int.natCast_succ _).symm | refine And.intro ?_ ?_)), rfl⟩
    · exfalso
      have e : h.n + 1 ≤ i := by
        have := of_decide_eq_false hc
        omega
      have a := hall S0 h0.1 h0.2.1
      have b := rk_le (up := true) hn h0.1
      omega
end Go.Proofs.Ytgofhjihkinknaa
