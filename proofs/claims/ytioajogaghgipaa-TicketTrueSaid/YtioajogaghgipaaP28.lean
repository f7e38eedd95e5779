/-
  Parts: U7, U8, U9, Ua, Ub.
-/
import Derived.Test.YtioajogaghgipaaP27
import Derived.Test.YtioajogaghgipaaP18
import Derived.Test.YtioajogaghgipaaP17
set_option linter.unusedVariables false
/-
 TicketTrue: a minute is drawn.
-/
namespace Go.Proofs.Ytioajogaghgipaa
open Go Go.Sy Tic
set_option linter.unusedSimpArgs false
set_option maxRecDepth 100000
set_option maxHeartbeats 4000000
attribute [local irreducible] CallP CodeP Ent YieldP
set_option maxHeartbeats 16000000
-- fast: YtioajogaghgipaaDd

def T6d (t : TK) (cb cd : Nat) : Tm := mkT [] [(2, .bool false), (3, .fn (.func 93) [] [.ptr 2 0, .ptr 1 0]), (4, .ptr 6 0), (5, .osl t.b 4 1 t.n cb), (6, .osl t.b 5 1 t.n cd)] 0 (List.replicate 455 none)
theorem seg6d (b : Bool) (n cap : Nat) (by' : Nat → Int) (c : Int) (hc0 : 0 ≤ c ∧ c ≤ 940000) (t : TK) (x : Tru) (fr : Nat → Int) (B : BT t x fr n by') (cb cd : Nat) :
  CodeP Try.prog none 1 (sufC Try.f6 11) ⟨T6d t cb cd, H6 b n cap by' c t x, []⟩ (KRet E Try.f6 1 (.bool true) (H60 n by')) := by
 have hn5 := B.m.n5
 have hcs := hc0.1
 refine codeP_XK E_ok 2 ?_
 (repeat' first|exact aq|refine aN ?_ ?_|exact trivial)
 refine CallP.frameH (t93 b n cap by' B.hby B.hn c (by omega) 241 (by decide)) [2, 1, 0] (by (repeat' first|exact fp|refine aN ?_ ?_)) rfl ?_
 rintro ce h' ⟨m, hm0, hm1, rfl, rfl⟩
 refine ⟨rfl, ?_⟩
 by_cases h0 : 0 < t.n
 ·have d1 : decide (((t.n : Nat) : Int) > 0) = true := decide_eq_true (by omega)
  all_goals (repeat' first|exact aq|refine aN ?_ ?_|exact trivial)
  all_goals first | exact dd | skip
  all_goals intro hg
  all_goals first | (exfalso; (try rw [d1] at hg); exact Bool.noConfusion (show true = false from hg)) | (exfalso; (try rw [d1] at hg); exact Bool.noConfusion (show false = true from hg)) | skip
  (repeat' first|exact aq|refine aN ?_ ?_|exact trivial)
  refine CallP.frameH (t93 b n cap by' B.hby B.hn (c + 1) (by omega) 3 (by decide)) [2, 1, 0] (by (repeat' first|exact fp|refine aN ?_ ?_)) rfl ?_
  rintro ce h' ⟨v, hv0, hv1, rfl, rfl⟩
  refine ⟨rfl, ?_⟩
  by_cases h2 : v > 0
  ·have d2 : decide (v > 0) = true := decide_eq_true h2
   all_goals (repeat' first|exact aq|refine aN ?_ ?_|exact trivial)
   all_goals first | exact dd | skip
   all_goals intro hz
   all_goals first | (exfalso; (try rw [d1] at hz); (try rw [d2] at hz); exact Bool.noConfusion (show true = false from hz)) | (exfalso; (try rw [d1] at hz); (try rw [d2] at hz); exact Bool.noConfusion (show false = true from hz)) | skip
   (repeat' first|exact aq|refine aN ?_ ?_|exact trivial)
   refine drawP E_ok [1] pl6_43 (by kernel_rfl) ?_
   (repeat' first|exact aq|refine aN ?_ ?_|exact trivial)
   refine CallP.frameH (t93 b n cap by' B.hby B.hn (c + 1 + 1) (by omega) t.n (by omega)) [2, 1, 0] (by (repeat' first|exact fp|refine aN ?_ ?_)) rfl ?_
   rintro ce h' ⟨q, hq0, hq1, rfl, rfl⟩
   refine ⟨rfl, ?_⟩
   have hd := B.day (i := q.toNat) (by omega)
   have ed : dooF x (0 + q.toNat) = (x q.toNat).2 := by rw [Nat.zero_add]; rfl
   (repeat' first|exact aq|refine aN ?_ ?_|exact trivial)
   all_goals first | exact dd | skip
   refine CallP.frameH (t93 b n cap by' B.hby B.hn (c + 1 + 1 + 1) (by omega) 3 (by decide)) [2, 1, 0] (by (repeat' first|exact fp|refine aN ?_ ?_)) rfl ?_
   rintro ce h' ⟨e, he0, he1, rfl, rfl⟩
   refine ⟨rfl, ?_⟩
   obtain ⟨m', em⟩ : ∃ m' : Int, (if dooF x (0 + q.toNat) - e > 0 then dooF x (0 + q.toNat) - e else 0) = m' := ⟨_, rfl⟩
   have hm' : 0 ≤ m' ∧ m' ≤ 240 := by
    rw [← em]
    split <;> omega
   (repeat' first|exact aq|refine aN ?_ ?_|exact trivial)
   all_goals first | exact dd | skip
   refine CodeP.part (seg6c b n cap by' (c + 1 + 1 + 1 + 1) (by omega) t x fr B cb cd m' hm') ?_
   refine ent_tau [0, 1, 2, 3, 4, 5, 6] ⟨by (repeat' first|exact fp|refine aN ?_ ?_), ?_, rfl⟩
   (repeat' first|exact tm|refine aN ?_ ?_)
   exact congrArg (SV.int .i64) em
  ·have d2 : decide (v > 0) = false := decide_eq_false h2
   all_goals (repeat' first|exact aq|refine aN ?_ ?_|exact trivial)
   all_goals first | exact dd | skip
   all_goals intro hz
   all_goals first | (exfalso; (try rw [d1] at hz); (try rw [d2] at hz); exact Bool.noConfusion (show true = false from hz)) | (exfalso; (try rw [d1] at hz); (try rw [d2] at hz); exact Bool.noConfusion (show false = true from hz)) | skip
   (repeat' first|exact aq|refine aN ?_ ?_|exact trivial)
   refine CodeP.part (seg6c b n cap by' (c + 1 + 1) (by omega) t x fr B cb cd m ⟨hm0, by omega⟩) ?_
   exact ent_tau [0, 1, 2, 3, 4, 5, 6] ⟨by (repeat' first|exact fp|refine aN ?_ ?_), by (repeat' first|exact tm|refine aN ?_ ?_), rfl⟩
 ·have d1 : decide (((t.n : Nat) : Int) > 0) = false := decide_eq_false (by omega)
  all_goals (repeat' first|exact aq|refine aN ?_ ?_|exact trivial)
  all_goals first | exact dd | skip
  all_goals intro hg
  all_goals first | (exfalso; (try rw [d1] at hg); exact Bool.noConfusion (show true = false from hg)) | (exfalso; (try rw [d1] at hg); exact Bool.noConfusion (show false = true from hg)) | skip
  all_goals (repeat' first|exact aq|refine aN ?_ ?_|exact trivial)
  all_goals first | exact dd | skip
  all_goals intro hz
  all_goals first | (exfalso; (try rw [d1] at hz); exact Bool.noConfusion (show true = false from hz)) | (exfalso; (try rw [d1] at hz); exact Bool.noConfusion (show false = true from hz)) | skip
  (repeat' first|exact aq|refine aN ?_ ?_|exact trivial)
  all_goals first | ((with_reducible show under _ _); first | simp [under, gB, wB, d1]; done | exact fun hh => Bool.noConfusion (show false = true from (d1.symm.trans hh))) | skip
  refine CodeP.part (seg6c b n cap by' (c + 1) (by omega) t x fr B cb cd m ⟨hm0, by omega⟩) ?_
  exact ent_tau [0, 1, 2, 3, 4, 5, 6] ⟨by (repeat' first|exact fp|refine aN ?_ ?_), by (repeat' first|exact tm|refine aN ?_ ?_), rfl⟩
end Go.Proofs.Ytioajogaghgipaa
/-
 TicketTrue: what is told of all tickets together.
-/
namespace Go.Proofs.Ytioajogaghgipaa
open Go Go.Sy Tic
set_option linter.unusedSimpArgs false
set_option maxRecDepth 100000
set_option maxHeartbeats 4000000
attribute [local irreducible] CallP CodeP Ent YieldP
set_option maxHeartbeats 16000000
-- fast: YtioajogaghgipaaDd

def T6e (t : TK) (cb cd : Nat) (lg mo od : Int) : Tm := mkT [] [(2, .bool false), (3, .fn (.func 93) [] [.ptr 2 0, .ptr 1 0]), (4, .ptr 6 0), (5, .osl t.b 4 1 t.n cb), (6, .osl t.b 5 1 t.n cd), (7, .ptr 7 0), (9, .ptr 8 0), (11, .ptr 9 0), (15, .int .i64 lg), (16, .int .i64 mo), (17, .int .i64 od)] 0 (List.replicate 455 none)
noncomputable def H6e (b : Bool) (n cap : Nat) (by' : Nat → Int) (c : Int) (t : TK) (x : Tru) (w1 w2 b1 b2 r1 r2 : Int) : SHeap := H6 b n cap by' c t x ++ [some (.cells [.int .i64 w1, .int .i64 w2]), some (.cells [.int .i64 b1, .int .i64 b2]), some (.cells [.int .i64 r1, .int .i64 r2])]
structure Sm (t : TK) (lg mo od w1 w2 b1 b2 r1 r2 : Int) : Prop where
 w : inI lg w1 w2 = true
 b : inI mo b1 b2 = true
 r : inI od r1 r2 = true
 bh : b2 ≤ t.huts
 rh : r2 ≤ max 0 ((t.n : Int) - 1)
theorem seg6e (b : Bool) (n cap : Nat) (by' : Nat → Int) (c : Int) (hc0 : 0 ≤ c ∧ c ≤ 930000) (t : TK) (x : Tru) (fr : Nat → Int) (B : BT t x fr n by') (cb cd : Nat) (lg mo od w1 w2 b1 b2 r1 r2 : Int) (S : Sm t lg mo od w1 w2 b1 b2 r1 r2) :
  CodeP Try.prog none 1 (sufC Try.f6 10) ⟨T6e t cb cd lg mo od, H6e b n cap by' c t x w1 w2 b1 b2 r1 r2, []⟩ (KRet E Try.f6 1 (.bool true) (H60 n by')) := by
 have hn5 := B.m.n5
 have c1 := t36 lg w1 w2
 have c2 := t36 mo b1 b2
 have c3 := t36 od r1 r2
 rw [S.w] at c1
 rw [S.b] at c2
 rw [S.r] at c3
 have hb := S.bh
 have hr := S.rh
 have d4 : decide (b2 > t.huts) = false := decide_eq_false (by omega)
 have d5 : decide (r2 > (if ((t.n : Nat) : Int) - 1 > 0 then ((t.n : Nat) : Int) - 1 else 0)) = false := decide_eq_false (by split <;> omega)
 refine codeP_XK E_ok 1 ?_
 (repeat' first|exact aq|refine aN ?_ ?_|exact trivial)
 refine c1.use [] ?_ (by (repeat' first|exact fp|refine aN ?_ ?_)) rfl
 all_goals (repeat' first|exact aq|refine aN ?_ ?_|exact trivial)
 all_goals first | exact dd | skip
 all_goals intro h1
 all_goals first | exact absurd h1 (by decide) | (cases h1; done) | skip
 refine c2.use [] ?_ (by (repeat' first|exact fp|refine aN ?_ ?_)) rfl
 all_goals (repeat' first|exact aq|refine aN ?_ ?_|exact trivial)
 all_goals first | exact dd | skip
 all_goals intro h2
 all_goals first | exact absurd h2 (by decide) | (cases h2; done) | skip
 refine c3.use [] ?_ (by (repeat' first|exact fp|refine aN ?_ ?_)) rfl
 (repeat' first|exact aq|refine aN ?_ ?_|exact trivial)
 all_goals first | exact dd | skip
 all_goals (repeat' first|exact aq|refine aN ?_ ?_|exact trivial)
 all_goals first | exact dd | skip
 all_goals intro hz
 all_goals first | (exfalso; (try rw [d4] at hz); (try rw [d5] at hz); exact Bool.noConfusion (show true = false from hz)) | (exfalso; (try rw [d4] at hz); (try rw [d5] at hz); exact Bool.noConfusion (show false = true from hz)) | skip
 (repeat' first|exact aq|refine aN ?_ ?_|exact trivial)
 refine CodeP.part (seg6d b n cap by' c (by omega) t x fr B cb cd) ?_
 exact ent_tau [0, 1, 2, 3, 4, 5, 6] ⟨by (repeat' first|exact fp|refine aN ?_ ?_), by (repeat' first|exact tm|refine aN ?_ ?_), rfl⟩
end Go.Proofs.Ytioajogaghgipaa
/-
 TicketTrue: plain law of one ticket.
-/
namespace Go.Proofs.Ytioajogaghgipaa
open Go Go.Sy Tic
set_option linter.unusedSimpArgs false
set_option maxRecDepth 100000
set_option maxHeartbeats 4000000
attribute [local irreducible] CallP CodeP Ent YieldP
-- fast: YtioajogaghgipaaDd

def ovM (x : Tru) (i k : Nat) : Nat := maskN (fun o => over x i o) k
structure TrF (t : TK) (x : Tru) (i : Nat) (S P O : Nat) (tu : Int) : Prop where
 s : sdiff S P = 0
 p : P < 2 ^ t.n
 o : sdiff O P = 0
 so : sdiff S O = 0
 t2 : tu = 2 → O = 0
 t0 : tu = 0 → O ≠ 0
 tp : tu = 2 ↔ P = 0
 s0 : S ≠ 0 → tu = 0
 sl : S < 32
 pl : P < 32
 ol : O < 32
 ov : O ≠ 0 ↔ overs t.n x i = true
theorem sdiff_none {A B n : Nat} (ha : A < 2 ^ n) (hn : n ≤ 64) (h : ∀ i, i < n → A.testBit i = true → B.testBit i = true) : sdiff A B = 0 := by
 have hl := sdiff_lt (b := B) ha
 rw [TK.zero_bits hl]
 intro i hi
 rw [sdiff_bit (by omega)]
 cases c : A.testBit i with
 | false => rfl
 | true => rw [h i hi c]; rfl
theorem trF {t : TK} (hv : t.Valid) {x : Tru} (hx : x ∈ t.trs) {i : Nat} (hi : i < t.n) : TrF t x i (t.surely i) (t.perhaps i) (ovM x i t.n) (t.turn i) := by
 have hne : t.trs ≠ [] := List.ne_nil_of_mem hx
 have hn5 := hv.2.1
 have p5 : 2 ^ t.n ≤ 2 ^ 5 := Nat.pow_le_pow_right (by decide) hn5
 have ol : ovM x i t.n < 2 ^ t.n := maskN_lt _ _
 have obit : ∀ o, o < t.n → (ovM x i t.n).testBit o = over x i o := fun o ho => by
  unfold ovM
  rw [maskN_bit, decide_eq_true ho, Bool.true_and]
 have ov : ovM x i t.n ≠ 0 ↔ overs t.n x i = true := by
  rw [ne_eq, TK.zero_bits ol, overs_iff]
  constructor
  ·intro h
   apply Classical.byContradiction
   intro H
   exact h fun o ho => by
    rw [obit o ho]
    cases c : over x i o with
    | false => rfl
    | true => exact absurd ⟨o, ho, c⟩ H
  ·rintro ⟨o, ho, c⟩ h
   have := h o ho
   rw [obit o ho, c] at this
   cases this
 have sl := TK.surely_lt (t := t) i
 have pl := TK.perhaps_lt (t := t) i
 refine ⟨sdiff_none sl (by omega) fun o _ h => TK.surely_perhaps hne h, pl, sdiff_none ol (by omega) fun o ho h => ?_, sdiff_none sl (by omega) fun o ho h => ?_, fun h => ?_, fun h => ?_, TK.turn_two hne, fun h => TK.turn_zero hne h, by omega, by omega, by omega, ov⟩
 ·rw [obit o ho] at h
  exact TK.true_perhaps hx ho h
 ·rw [obit o ho]
  exact TK.true_surely hx h
 ·have h1 := TK.true_always hx h
  apply Classical.byContradiction
  intro c
  have := ov.1 c
  rw [h1] at this
  cases this
 ·exact ov.2 (TK.true_never hx h)
theorem true_min {t : TK} {x : Tru} (hx : x ∈ t.trs) (i : Nat) : inI (x i).1 (t.bought i).1 (t.bought i).2 = true ∧ inI (x i).2 (t.door i).1 (t.door i).2 = true := by
 have hne : t.trs ≠ [] := List.ne_nil_of_mem hx
 exact ⟨inI_iff.2 (TK.hull_in (TK.bought_is hne i) hx), inI_iff.2 (TK.hull_in (TK.door_is hne i) hx)⟩
theorem true_sm {t : TK} (hv : t.Valid) {x : Tru} (hx : x ∈ t.trs) : Sm t (TK.longest x t.n) (t.mostF x t.n) ((t.odd x : Nat) : Int) t.waits.1 t.waits.2 t.busy.1 t.busy.2 t.wrong.1 t.wrong.2 := by
 have hne : t.trs ≠ [] := List.ne_nil_of_mem hx
 exact ⟨inI_iff.2 (TK.hull_in (TK.waits_is hne) hx), inI_iff.2 (TK.hull_in (TK.busy_is hne) hx), inI_iff.2 (TK.hull_in (TK.wrong_is hne) hx), TK.busy_le hv hne, TK.wrong_hi hne⟩
end Go.Proofs.Ytioajogaghgipaa
/-
 TicketTrue: all tickets, one by one.
-/
namespace Go.Proofs.Ytioajogaghgipaa
open Go Go.Sy Tic
set_option linter.unusedSimpArgs false
set_option maxRecDepth 100000
set_option maxHeartbeats 4000000
attribute [local irreducible] CallP CodeP Ent YieldP
set_option maxHeartbeats 16000000
-- fast: YtioajogaghgipaaDd

def T6f (t : TK) (cb cd : Nat) : Tm := mkT [] [(2, .bool false), (3, .fn (.func 93) [] [.ptr 2 0, .ptr 1 0]), (4, .ptr 6 0), (5, .osl t.b 4 1 t.n cb), (6, .osl t.b 5 1 t.n cd), (7, .ptr 7 0), (9, .ptr 8 0), (11, .ptr 9 0)] 0 (List.replicate 455 none)
def odN (t : TK) (x : Tru) (k : Nat) : Nat := cntN (fun i => overs t.n x i) k
theorem seg6f (b : Bool) (n cap : Nat) (by' : Nat → Int) (c : Int) (hc0 : 0 ≤ c ∧ c ≤ 930000) (t : TK) (x : Tru) (fr : Nat → Int) (B : BT t x fr n by') (cb cd : Nat) (w1 w2 b1 b2 r1 r2 : Int) (S : Sm t (TK.longest x t.n) (t.mostF x t.n) ((odN t x t.n : Nat) : Int) w1 w2 b1 b2 r1 r2) :
  CodeP Try.prog none 1 (sufC Try.f6 8) ⟨T6f t cb cd, H6e b n cap by' c t x w1 w2 b1 b2 r1 r2, []⟩ (KRet E Try.f6 1 (.bool true) (H60 n by')) := by
 have hv := B.valid
 have hn5 := B.m.n5
 have hu := B.m.hu
 have hI : InR .i64 t.huts := ⟨by omega, by omega⟩
 refine codeP_XK E_ok 2 ?_
 (repeat' first|exact aq|refine aN ?_ ?_|exact trivial)
 refine loopP E_ok [2, 3, 4, 5, 6, 7, 9, 11, 87, 88] (fun k : Nat => [(15, .int .i64 (TK.longest x k)), (16, .int .i64 (t.mostF x k)), (17, .int .i64 (odN t x k : Nat)), (89, .int .i64 k)]) (fun _ _ => H6e b n cap by' c t x w1 w2 b1 b2 r1 r2) (fun k => k ≤ t.n) (fun k => t.n - k) 0 (Nat.zero_le _) ?_ ?_
 ·exact ent_tau [0, 1, 2, 3, 4, 5, 6, 7, 8, 9] ⟨by (repeat' first|exact fp|refine aN ?_ ?_), by (repeat' first|exact tm|refine aN ?_ ?_), rfl⟩
 rintro i hi
 have ei := z1 i
 refine And.intro ?_ (And.intro (fun hci => ?_) (fun hci => ?_))
 ·(repeat' first|exact aq|refine aN ?_ ?_|exact trivial)
 ·have hi' : i < t.n := by
   have := of_decide_eq_true hci
   omega
  have hd := B.day hi'
  have F := trF hv B.mem hi'
  obtain ⟨ma, mb⟩ := true_min B.mem i
  have c14 := t14 t (by omega) hI i
  have c16 := t16 t (by omega) hI i
  have c18 := t18 t (by omega) hI i
  rw [min_is hv B.ne i hi'] at c14
  rw [turn_is hv B.ne i hi'] at c16
  rw [pas_is hv B.ne i hi'] at c18
  have eb : bouF x (0 + ((i : Nat) : Int).toNat) = (x i).1 := by rw [ei]; rfl
  have ed : dooF x (0 + ((i : Nat) : Int).toNat) = (x i).2 := by rw [ei]; rfl
  have ca := t36 (bouF x (0 + ((i : Nat) : Int).toNat)) (t.bought i).1 (t.bought i).2
  have cb' := t36 (dooF x (0 + ((i : Nat) : Int).toNat)) (t.door i).1 (t.door i).2
  rw [eb, ma] at ca
  rw [ed, mb] at cb'
  rw [← eb] at ca
  rw [← ed] at cb'
  generalize t.bought i = BO at c14 ca
  generalize t.door i = DO at c14 cb'
  generalize t.surely i = SU at c18 F
  generalize t.perhaps i = PE at c18 F
  generalize t.turn i = TU at c16 F
  obtain ⟨bo1, bo2⟩ := BO
  obtain ⟨do1, do2⟩ := DO
  dsimp only at c14 c16 c18 ca cb'
  have aSP : bitOp .andNot .i64 ((SU : Nat) : Int) ((PE : Nat) : Int) = 0 := by rw [andNot64 (by have := F.sl; omega), F.s]; rfl
  have aP : ((PE : Nat) : Int).fdiv (2 ^ ((t.n : Nat) : Int).toNat) = 0 := by rw [Int.toNat_natCast]; exact shr_zero F.p
  (repeat' first|exact aq|refine aN ?_ ?_|exact trivial)
  refine c14.use [3] ?_ (by (repeat' first|exact fp|refine aN ?_ ?_)) rfl
  (repeat' first|exact aq|refine aN ?_ ?_|exact trivial)
  refine c16.use [3] ?_ (by (repeat' first|exact fp|refine aN ?_ ?_)) rfl
  (repeat' first|exact aq|refine aN ?_ ?_|exact trivial)
  refine c18.use [3] ?_ (by (repeat' first|exact fp|refine aN ?_ ?_)) rfl
  (repeat' first|exact aq|refine aN ?_ ?_|exact trivial)
  refine drawP E_ok [6, 10, 11] pl6_16 (by kernel_rfl) ?_
  (repeat' first|exact aq|refine aN ?_ ?_|exact trivial)
  all_goals first | exact dd | skip
  all_goals (repeat' first|exact aq|refine aN ?_ ?_|exact trivial)
  all_goals first | exact dd | skip
  all_goals intro hg1
  all_goals first | exact absurd hg1 (by decide) | (cases hg1; done) | skip
  refine ca.use [] ?_ (by (repeat' first|exact fp|refine aN ?_ ?_)) rfl
  all_goals (repeat' first|exact aq|refine aN ?_ ?_|exact trivial)
  all_goals first | exact dd | skip
  all_goals intro hg2
  all_goals first | exact absurd hg2 (by decide) | (cases hg2; done) | skip
  refine cb'.use [] ?_ (by (repeat' first|exact fp|refine aN ?_ ?_)) rfl
  (repeat' first|exact aq|refine aN ?_ ?_|exact trivial)
  all_goals first | exact dd | skip
  all_goals (repeat' first|exact aq|refine aN ?_ ?_|exact trivial)
  all_goals first | exact dd | skip
  all_goals intro hz
  all_goals first | (exfalso; (try rw [aSP] at hz); (try rw [aP] at hz); exact Bool.noConfusion (show true = false from hz)) | (exfalso; (try rw [aSP] at hz); (try rw [aP] at hz); exact Bool.noConfusion (show false = true from hz)) | skip
  (repeat' first|exact aq|refine aN ?_ ?_|exact trivial)
  all_goals first | exact dd | skip
  refine loopP E_ok [2, 3, 4, 5, 6, 7, 9, 11, 15, 16, 17, 18, 22, 24, 25, 87, 88, 89, 155, 156] (fun o : Nat => [(27, .int .i64 (ovM x i o : Nat)), (157, .int .i64 o)]) (fun _ _ => H6e b n cap by' c t x w1 w2 b1 b2 r1 r2) (fun o => o ≤ t.n) (fun o => t.n - o) 0 (Nat.zero_le _) ?_ ?_
  ·exact ent_tau [0, 1, 2, 3, 4, 5, 6, 7, 8, 9] ⟨by (repeat' first|exact fp|refine aN ?_ ?_), by (repeat' first|exact tm|refine aN ?_ ?_), rfl⟩
  rintro o ho
  have eo := z1 o
  have om : ovM x i o < 2 ^ o := maskN_lt _ _
  refine And.intro ?_ (And.intro (fun hco => ?_) (fun hco => ?_))
  ·(repeat' first|exact aq|refine aN ?_ ?_|exact trivial)
  ·have ho' : o < t.n := by
    have := of_decide_eq_true hco
    omega
   have po : 2 ^ o ≤ 2 ^ 5 := Nat.pow_le_pow_right (by decide) (by omega)
   have edo : dooF x (0 + ((o : Nat) : Int).toNat) = (x o).2 := by rw [eo]; rfl
   have c37 := t37 t.b t.n cb x o i ho' hi'
   have eor : bitOp .or .i64 ((ovM x i o : Nat) : Int) (1 * 2 ^ ((o : Nat) : Int).toNat) = ((ovM x i o ||| 2 ^ o : Nat) : Int) := by
    rw [pow_int, or64 (by omega) (by omega)]
   obtain ⟨v, hv2⟩ : ∃ v, before x o i = v := ⟨_, rfl⟩
   rw [hv2] at c37
   cases v with
   | false =>
    have hov : over x i o = false := by unfold over; rw [hv2]; rfl
    (repeat' first|exact aq|refine aN ?_ ?_|exact trivial)
    refine drawP E_ok [] pl6_22 (by kernel_rfl) ?_
    (repeat' first|exact aq|refine aN ?_ ?_|exact trivial)
    refine c37.use [4] ?_ (by (repeat' first|exact fp|refine aN ?_ ?_)) rfl
    (repeat' first|exact aq|refine aN ?_ ?_|exact trivial)
    all_goals first | exact dd | skip
    all_goals (repeat' first|exact aq|refine aN ?_ ?_|exact trivial)
    all_goals first | exact dd | skip
    all_goals intro hz
    all_goals first | exact absurd hz (by decide) | (cases hz; done) | skip
    (repeat' first|exact aq|refine aN ?_ ?_|exact trivial)
    all_goals first | exact dd | skip
    refine ⟨o + 1, ho', by omega, ?_⟩
    refine ent_tau [0, 1, 2, 3, 4, 5, 6, 7, 8, 9] ⟨by (repeat' first|exact fp|refine aN ?_ ?_), ?_, rfl⟩
    (repeat' first|exact tm|refine aN ?_ ?_)
    exact congrArg (fun z : Nat => SV.int .i64 z) (mask_no (p := fun o => over x i o) hov).symm
   | true =>
    by_cases hdo : dooF x (0 + ((o : Nat) : Int).toNat) > dooF x (0 + ((i : Nat) : Int).toNat)
    ·have dd1 : decide (dooF x (0 + ((o : Nat) : Int).toNat) > dooF x (0 + ((i : Nat) : Int).toNat)) = true := decide_eq_true hdo
     have hov : over x i o = true := by unfold over; rw [hv2, decide_eq_true (show (x i).2 < (x o).2 by omega)]; rfl
     (repeat' first|exact aq|refine aN ?_ ?_|exact trivial)
     refine drawP E_ok [] pl6_22 (by kernel_rfl) ?_
     (repeat' first|exact aq|refine aN ?_ ?_|exact trivial)
     refine c37.use [4] ?_ (by (repeat' first|exact fp|refine aN ?_ ?_)) rfl
     (repeat' first|exact aq|refine aN ?_ ?_|exact trivial)
     all_goals first | exact dd | skip
     all_goals (repeat' first|exact aq|refine aN ?_ ?_|exact trivial)
     all_goals first | exact dd | skip
     all_goals intro hz
     all_goals first | (exfalso; (try rw [dd1] at hz); exact Bool.noConfusion (show true = false from hz)) | (exfalso; (try rw [dd1] at hz); exact Bool.noConfusion (show false = true from hz)) | skip
     (repeat' first|exact aq|refine aN ?_ ?_|exact trivial)
     all_goals first | exact dd | skip
     all_goals first | (rw [pow_int]; omega) | skip
     refine ⟨o + 1, ho', by omega, ?_⟩
     refine ent_tau [0, 1, 2, 3, 4, 5, 6, 7, 8, 9] ⟨by (repeat' first|exact fp|refine aN ?_ ?_), ?_, rfl⟩
     (repeat' first|exact tm|refine aN ?_ ?_)
     exact congrArg (SV.int .i64) (eor.trans (congrArg (fun z : Nat => (z : Int)) (mask_yes (p := fun o => over x i o) hov).symm))
    ·have dd1 : decide (dooF x (0 + ((o : Nat) : Int).toNat) > dooF x (0 + ((i : Nat) : Int).toNat)) = false := decide_eq_false hdo
     have hov : over x i o = false := by unfold over; rw [hv2, decide_eq_false (show ¬ (x i).2 < (x o).2 by omega)]; rfl
     (repeat' first|exact aq|refine aN ?_ ?_|exact trivial)
     refine drawP E_ok [] pl6_22 (by kernel_rfl) ?_
     (repeat' first|exact aq|refine aN ?_ ?_|exact trivial)
     refine c37.use [4] ?_ (by (repeat' first|exact fp|refine aN ?_ ?_)) rfl
     (repeat' first|exact aq|refine aN ?_ ?_|exact trivial)
     all_goals first | exact dd | skip
     all_goals (repeat' first|exact aq|refine aN ?_ ?_|exact trivial)
     all_goals first | exact dd | skip
     all_goals intro hz
     all_goals first | (exfalso; (try rw [dd1] at hz); exact Bool.noConfusion (show true = false from hz)) | (exfalso; (try rw [dd1] at hz); exact Bool.noConfusion (show false = true from hz)) | skip
     (repeat' first|exact aq|refine aN ?_ ?_|exact trivial)
     all_goals first | exact dd | skip
     refine ⟨o + 1, ho', by omega, ?_⟩
     refine ent_tau [0, 1, 2, 3, 4, 5, 6, 7, 8, 9] ⟨by (repeat' first|exact fp|refine aN ?_ ?_), ?_, rfl⟩
     (repeat' first|exact tm|refine aN ?_ ?_)
     exact congrArg (fun z : Nat => SV.int .i64 z) (mask_no (p := fun o => over x i o) hov).symm
  ·obtain rfl : o = t.n := by
    have := of_decide_eq_false hco
    omega
   have aOP : bitOp .andNot .i64 ((ovM x i t.n : Nat) : Int) ((PE : Nat) : Int) = 0 := by rw [andNot64 (by have := F.ol; omega), F.o]; rfl
   have aSO : bitOp .andNot .i64 ((SU : Nat) : Int) ((ovM x i t.n : Nat) : Int) = 0 := by rw [andNot64 (by have := F.sl; omega), F.so]; rfl
   by_cases hov : overs t.n x i = true
   ·have q1 : ovM x i t.n ≠ 0 := F.ov.2 hov
    have q2 : TU ≠ 2 := fun e => q1 (F.t2 e)
    have q3 : PE ≠ 0 := fun e => q2 (F.tp.2 e)
    have q4 : TU = 0 ∨ SU = 0 := by
     by_cases e : SU = 0
     ·exact .inr e
     ·exact .inl (F.s0 e)
    (repeat' first|exact aq|refine aN ?_ ?_|exact trivial)
    all_goals first | exact dd | skip
    all_goals intro hz
    all_goals first | (exfalso; revert hz; simp only [aOP, aSO]; rcases q4 with q4 | q4 <;> simp [q1, q2, q3, q4]; done) | skip
    have hod : odN t x i ≤ i := cntN_le _ _
    have dq : decide (((ovM x i t.n : Nat) : Int) = 0) = false := decide_eq_false (by omega)
    (repeat' first|exact aq|refine aN ?_ ?_|exact trivial)
    all_goals (repeat' first|exact aq|refine aN ?_ ?_|exact trivial)
    all_goals first | exact dd | skip
    all_goals intro hy
    all_goals first | (exfalso; (try rw [dq] at hy); exact Bool.noConfusion (show true = false from hy)) | (exfalso; (try rw [dq] at hy); exact Bool.noConfusion (show false = true from hy)) | skip
    (repeat' first|exact aq|refine aN ?_ ?_|exact trivial)
    all_goals first | exact dd | skip
    refine drawP E_ok [] pl6_29 (by kernel_rfl) ?_
    (repeat' first|exact aq|refine aN ?_ ?_|exact trivial)
    all_goals first | exact dd | skip
    refine loopP E_ok [2, 3, 4, 5, 6, 7, 9, 11, 16, 18, 87, 88, 89, 237, 238] (fun o : Nat => [(15, .int .i64 (TK.longest x (i + 1))), (17, .int .i64 (odN t x (i + 1) : Nat)), (29, .int .i64 (hutM t x (x i).2 o : Nat)), (239, .int .i64 o)]) (fun _ _ => H6e b n cap by' c t x w1 w2 b1 b2 r1 r2) (fun o => o ≤ t.n) (fun o => t.n - o) 0 (Nat.zero_le _) ?_ ?_
    ·refine ent_tau [0, 1, 2, 3, 4, 5, 6, 7, 8, 9] ⟨by (repeat' first|exact fp|refine aN ?_ ?_), ?_, rfl⟩
     (repeat' first|exact tm|refine aN ?_ ?_)
     ·refine congrArg (SV.int .i64) ?_
      rw [TK.longest, ed, eb]
      split <;> omega
     ·refine congrArg (SV.int .i64) (show ((odN t x i : Nat) : Int) + 1 = ((odN t x (i + 1) : Nat) : Int) from by unfold odN; rw [cntN, hov]; rfl)
    rintro o ho
    have eo := z1 o
    have hl := TK.hutM_lt hv x (x i).2 o ho
    refine And.intro ?_ (And.intro (fun hco => ?_) (fun hco => ?_))
    ·(repeat' first|exact aq|refine aN ?_ ?_|exact trivial)
    ·have ho' : o < t.n := by
      have := of_decide_eq_true hco
      omega
     have hdo := B.day ho'
     have hho := B.hut ho'
     have edo : dooF x (0 + ((o : Nat) : Int).toNat) = (x o).2 := by rw [eo]; rfl
     have eho : t.hut (0 + ((o : Nat) : Int).toNat) = t.hut o := by rw [eo]
     obtain ⟨hu0, ehu⟩ : ∃ k : Nat, t.hut o = (k : Int) := ⟨(t.hut o).toNat, by omega⟩
     have hk4 : 2 ^ hu0 ≤ 2 ^ 3 := Nat.pow_le_pow_right (by decide) (by omega)
     have pw : (1 : Int) * 2 ^ (t.hut (0 + ((o : Nat) : Int).toNat)).toNat = ((2 ^ hu0 : Nat) : Int) := by rw [eho, ehu]; exact pow_int hu0
     have pwl : (-9223372036854775808 : Int) ≤ 1 * 2 ^ (t.hut (0 + ((o : Nat) : Int).toNat)).toNat ∧ (1 : Int) * 2 ^ (t.hut (0 + ((o : Nat) : Int).toNat)).toNat ≤ 9223372036854775807 := by
      rw [pw]
      clear pw
      have : (2 ^ hu0 : Nat) ≤ 8 := hk4
      generalize 2 ^ hu0 = Q at this
      omega
     have eor : bitOp .or .i64 ((hutM t x (x i).2 o : Nat) : Int) (1 * 2 ^ (t.hut (0 + ((o : Nat) : Int).toNat)).toNat) = ((hutM t x (x i).2 o ||| 2 ^ hu0 : Nat) : Int) := by
      rw [pw, or64 (by omega) (by omega)]
     have hin : inI ((x i).2 - (x o).2) 0 29 = (decide ((x o).2 ≤ (x i).2) && decide ((x i).2 < (x o).2 + 30)) := by
      unfold inI
      rw [Bool.eq_iff_iff]
      simp only [Bool.and_eq_true, decide_eq_true_eq]
      omega
     by_cases g1 : dooF x (0 + ((o : Nat) : Int).toNat) ≤ dooF x (0 + ((i : Nat) : Int).toNat)
     ·have dg1 : decide (dooF x (0 + ((o : Nat) : Int).toNat) ≤ dooF x (0 + ((i : Nat) : Int).toNat)) = true := decide_eq_true g1
      by_cases g2 : dooF x (0 + ((i : Nat) : Int).toNat) < dooF x (0 + ((o : Nat) : Int).toNat) + 30
      ·have dg2 : decide (dooF x (0 + ((i : Nat) : Int).toNat) < dooF x (0 + ((o : Nat) : Int).toNat) + 30) = true := decide_eq_true g2
       have st : hutM t x (x i).2 (o + 1) = hutM t x (x i).2 o ||| 2 ^ hu0 := by
        rw [hutM, hin, decide_eq_true (show (x o).2 ≤ (x i).2 by omega), decide_eq_true (show (x i).2 < (x o).2 + 30 by omega), ehu]
        rfl
       (repeat' first|exact aq|refine aN ?_ ?_|exact trivial)
       all_goals first | exact dd | skip
       refine drawP E_ok [] pl6_34 (by kernel_rfl) ?_
       (repeat' first|exact aq|refine aN ?_ ?_|exact trivial)
       all_goals first | exact dd | skip
       all_goals (repeat' first|exact aq|refine aN ?_ ?_|exact trivial)
       all_goals first | exact dd | skip
       all_goals intro hw
       all_goals first | (exfalso; (try rw [dg1] at hw); (try rw [dg2] at hw); exact Bool.noConfusion (show true = false from hw)) | (exfalso; (try rw [dg1] at hw); (try rw [dg2] at hw); exact Bool.noConfusion (show false = true from hw)) | skip
       (repeat' first|exact aq|refine aN ?_ ?_|exact trivial)
       all_goals first | exact dd | skip
       all_goals first | exact pwl.1 | exact pwl.2 | ((with_reducible show (_ : Int) ≤ _); rw [eho]; omega) | ((with_reducible show (_ : Int) < _); rw [eho]; omega) | skip
       refine ⟨o + 1, ho', by omega, ?_⟩
       refine ent_tau [0, 1, 2, 3, 4, 5, 6, 7, 8, 9] ⟨by (repeat' first|exact fp|refine aN ?_ ?_), ?_, rfl⟩
       (repeat' first|exact tm|refine aN ?_ ?_)
       exact congrArg (SV.int .i64) (eor.trans (congrArg (fun z : Nat => (z : Int)) st.symm))
      ·have dg2 : decide (dooF x (0 + ((i : Nat) : Int).toNat) < dooF x (0 + ((o : Nat) : Int).toNat) + 30) = false := decide_eq_false g2
       have st : hutM t x (x i).2 (o + 1) = hutM t x (x i).2 o := by
        rw [hutM, hin, decide_eq_false (show ¬ (x i).2 < (x o).2 + 30 by omega), Bool.and_false]
        rfl
       (repeat' first|exact aq|refine aN ?_ ?_|exact trivial)
       all_goals first | exact dd | skip
       refine drawP E_ok [] pl6_34 (by kernel_rfl) ?_
       (repeat' first|exact aq|refine aN ?_ ?_|exact trivial)
       all_goals first | exact dd | skip
       all_goals (repeat' first|exact aq|refine aN ?_ ?_|exact trivial)
       all_goals first | exact dd | skip
       all_goals intro hw
       all_goals first | (exfalso; (try rw [dg1] at hw); (try rw [dg2] at hw); exact Bool.noConfusion (show true = false from hw)) | (exfalso; (try rw [dg1] at hw); (try rw [dg2] at hw); exact Bool.noConfusion (show false = true from hw)) | skip
       (repeat' first|exact aq|refine aN ?_ ?_|exact trivial)
       all_goals first | exact dd | skip
       refine ⟨o + 1, ho', by omega, ?_⟩
       refine ent_tau [0, 1, 2, 3, 4, 5, 6, 7, 8, 9] ⟨by (repeat' first|exact fp|refine aN ?_ ?_), ?_, rfl⟩
       (repeat' first|exact tm|refine aN ?_ ?_)
       exact congrArg (fun z : Nat => SV.int .i64 z) st.symm
     ·have dg1 : decide (dooF x (0 + ((o : Nat) : Int).toNat) ≤ dooF x (0 + ((i : Nat) : Int).toNat)) = false := decide_eq_false g1
      have st : hutM t x (x i).2 (o + 1) = hutM t x (x i).2 o := by
       rw [hutM, hin, decide_eq_false (show ¬ (x o).2 ≤ (x i).2 by omega), Bool.false_and]
       rfl
      (repeat' first|exact aq|refine aN ?_ ?_|exact trivial)
      all_goals first | exact dd | skip
      refine drawP E_ok [] pl6_34 (by kernel_rfl) ?_
      (repeat' first|exact aq|refine aN ?_ ?_|exact trivial)
      all_goals first | exact dd | skip
      all_goals (repeat' first|exact aq|refine aN ?_ ?_|exact trivial)
      all_goals first | exact dd | skip
      all_goals intro hw
      all_goals first | (exfalso; (try rw [dg1] at hw); exact Bool.noConfusion (show true = false from hw)) | (exfalso; (try rw [dg1] at hw); exact Bool.noConfusion (show false = true from hw)) | skip
      (repeat' first|exact aq|refine aN ?_ ?_|exact trivial)
      all_goals first | exact dd | skip
      refine ⟨o + 1, ho', by omega, ?_⟩
      refine ent_tau [0, 1, 2, 3, 4, 5, 6, 7, 8, 9] ⟨by (repeat' first|exact fp|refine aN ?_ ?_), ?_, rfl⟩
      (repeat' first|exact tm|refine aN ?_ ?_)
      exact congrArg (fun z : Nat => SV.int .i64 z) st.symm
    ·obtain rfl : o = t.n := by
      have := of_decide_eq_false hco
      omega
     have c38 := t38 (hutM t x (x i).2 t.n) (by omega)
     rw [TK.hutM_pop hv] at c38
     have um := TK.usedN_le (t := t) x (x i).2
     obtain ⟨m0, m1⟩ := TK.mostF_le hv x i
     (repeat' first|exact aq|refine aN ?_ ?_|exact trivial)
     all_goals first | exact dd | skip
     refine c38.use [] ?_ (by (repeat' first|exact fp|refine aN ?_ ?_)) rfl
     (repeat' first|exact aq|refine aN ?_ ?_|exact trivial)
     all_goals first | exact dd | skip
     refine ⟨i + 1, hi', by omega, ?_⟩
     refine ent_tau [0, 1, 2, 3, 4, 5, 6, 7, 8, 9] ⟨by (repeat' first|exact fp|refine aN ?_ ?_), ?_, rfl⟩
     (repeat' first|exact tm|refine aN ?_ ?_)
     refine congrArg (SV.int .i64) ?_
     rw [TK.mostF]
     split <;> omega
   ·have hovf : overs t.n x i = false := by
     cases h : overs t.n x i with
     | false => rfl
     | true => exact absurd h hov
    have q1 : ovM x i t.n = 0 := Classical.byContradiction fun e => hov (F.ov.1 e)
    have q2 : TU ≠ 0 := fun e => F.t0 e q1
    have q3 : SU = 0 := Classical.byContradiction fun e => q2 (F.s0 e)
    have q4 : (TU = 2 ∧ PE = 0) ∨ (TU ≠ 2 ∧ PE ≠ 0) := by
     by_cases e : TU = 2
     ·exact .inl ⟨e, F.tp.1 e⟩
     ·exact .inr ⟨e, fun e2 => e (F.tp.2 e2)⟩
    (repeat' first|exact aq|refine aN ?_ ?_|exact trivial)
    all_goals first | exact dd | skip
    all_goals intro hz
    all_goals first | (exfalso; revert hz; simp only [aOP, aSO]; rcases q4 with ⟨q4, q5⟩ | ⟨q4, q5⟩ <;> simp [q1, q2, q3, q4, q5]; done) | skip
    have hod : odN t x i ≤ i := cntN_le _ _
    have dq : decide (((ovM x i t.n : Nat) : Int) = 0) = true := decide_eq_true (by omega)
    (repeat' first|exact aq|refine aN ?_ ?_|exact trivial)
    all_goals (repeat' first|exact aq|refine aN ?_ ?_|exact trivial)
    all_goals first | exact dd | skip
    all_goals intro hy
    all_goals first | (exfalso; (try rw [dq] at hy); exact Bool.noConfusion (show true = false from hy)) | (exfalso; (try rw [dq] at hy); exact Bool.noConfusion (show false = true from hy)) | skip
    (repeat' first|exact aq|refine aN ?_ ?_|exact trivial)
    all_goals first | exact dd | skip
    refine drawP E_ok [] pl6_29 (by kernel_rfl) ?_
    (repeat' first|exact aq|refine aN ?_ ?_|exact trivial)
    all_goals first | exact dd | skip
    refine loopP E_ok [2, 3, 4, 5, 6, 7, 9, 11, 16, 18, 87, 88, 89, 237, 238] (fun o : Nat => [(15, .int .i64 (TK.longest x (i + 1))), (17, .int .i64 (odN t x (i + 1) : Nat)), (29, .int .i64 (hutM t x (x i).2 o : Nat)), (239, .int .i64 o)]) (fun _ _ => H6e b n cap by' c t x w1 w2 b1 b2 r1 r2) (fun o => o ≤ t.n) (fun o => t.n - o) 0 (Nat.zero_le _) ?_ ?_
    ·refine ent_tau [0, 1, 2, 3, 4, 5, 6, 7, 8, 9] ⟨by (repeat' first|exact fp|refine aN ?_ ?_), ?_, rfl⟩
     (repeat' first|exact tm|refine aN ?_ ?_)
     ·refine congrArg (SV.int .i64) ?_
      rw [TK.longest, ed, eb]
      split <;> omega
     ·refine congrArg (fun z : Nat => SV.int .i64 z) (show odN t x i = odN t x (i + 1) from by unfold odN; rw [cntN, hovf]; rfl)
    rintro o ho
    have eo := z1 o
    have hl := TK.hutM_lt hv x (x i).2 o ho
    refine And.intro ?_ (And.intro (fun hco => ?_) (fun hco => ?_))
    ·(repeat' first|exact aq|refine aN ?_ ?_|exact trivial)
    ·have ho' : o < t.n := by
      have := of_decide_eq_true hco
      omega
     have hdo := B.day ho'
     have hho := B.hut ho'
     have edo : dooF x (0 + ((o : Nat) : Int).toNat) = (x o).2 := by rw [eo]; rfl
     have eho : t.hut (0 + ((o : Nat) : Int).toNat) = t.hut o := by rw [eo]
     obtain ⟨hu0, ehu⟩ : ∃ k : Nat, t.hut o = (k : Int) := ⟨(t.hut o).toNat, by omega⟩
     have hk4 : 2 ^ hu0 ≤ 2 ^ 3 := Nat.pow_le_pow_right (by decide) (by omega)
     have pw : (1 : Int) * 2 ^ (t.hut (0 + ((o : Nat) : Int).toNat)).toNat = ((2 ^ hu0 : Nat) : Int) := by rw [eho, ehu]; exact pow_int hu0
     have pwl : (-9223372036854775808 : Int) ≤ 1 * 2 ^ (t.hut (0 + ((o : Nat) : Int).toNat)).toNat ∧ (1 : Int) * 2 ^ (t.hut (0 + ((o : Nat) : Int).toNat)).toNat ≤ 9223372036854775807 := by
      rw [pw]
      clear pw
      have : (2 ^ hu0 : Nat) ≤ 8 := hk4
      generalize 2 ^ hu0 = Q at this
      omega
     have eor : bitOp .or .i64 ((hutM t x (x i).2 o : Nat) : Int) (1 * 2 ^ (t.hut (0 + ((o : Nat) : Int).toNat)).toNat) = ((hutM t x (x i).2 o ||| 2 ^ hu0 : Nat) : Int) := by
      rw [pw, or64 (by omega) (by omega)]
     have hin : inI ((x i).2 - (x o).2) 0 29 = (decide ((x o).2 ≤ (x i).2) && decide ((x i).2 < (x o).2 + 30)) := by
      unfold inI
      rw [Bool.eq_iff_iff]
      simp only [Bool.and_eq_true, decide_eq_true_eq]
      omega
     by_cases g1 : dooF x (0 + ((o : Nat) : Int).toNat) ≤ dooF x (0 + ((i : Nat) : Int).toNat)
     ·have dg1 : decide (dooF x (0 + ((o : Nat) : Int).toNat) ≤ dooF x (0 + ((i : Nat) : Int).toNat)) = true := decide_eq_true g1
      by_cases g2 : dooF x (0 + ((i : Nat) : Int).toNat) < dooF x (0 + ((o : Nat) : Int).toNat) + 30
      ·have dg2 : decide (dooF x (0 + ((i : Nat) : Int).toNat) < dooF x (0 + ((o : Nat) : Int).toNat) + 30) = true := decide_eq_true g2
       have st : hutM t x (x i).2 (o + 1) = hutM t x (x i).2 o ||| 2 ^ hu0 := by
        rw [hutM, hin, decide_eq_true (show (x o).2 ≤ (x i).2 by omega), decide_eq_true (show (x i).2 < (x o).2 + 30 by omega), ehu]
        rfl
       (repeat' first|exact aq|refine aN ?_ ?_|exact trivial)
       all_goals first | exact dd | skip
       refine drawP E_ok [] pl6_34 (by kernel_rfl) ?_
       (repeat' first|exact aq|refine aN ?_ ?_|exact trivial)
       all_goals first | exact dd | skip
       all_goals (repeat' first|exact aq|refine aN ?_ ?_|exact trivial)
       all_goals first | exact dd | skip
       all_goals intro hw
       all_goals first | (exfalso; (try rw [dg1] at hw); (try rw [dg2] at hw); exact Bool.noConfusion (show true = false from hw)) | (exfalso; (try rw [dg1] at hw); (try rw [dg2] at hw); exact Bool.noConfusion (show false = true from hw)) | skip
       (repeat' first|exact aq|refine aN ?_ ?_|exact trivial)
       all_goals first | exact dd | skip
       all_goals first | exact pwl.1 | exact pwl.2 | ((with_reducible show (_ : Int) ≤ _); rw [eho]; omega) | ((with_reducible show (_ : Int) < _); rw [eho]; omega) | skip
       refine ⟨o + 1, ho', by omega, ?_⟩
       refine ent_tau [0, 1, 2, 3, 4, 5, 6, 7, 8, 9] ⟨by (repeat' first|exact fp|refine aN ?_ ?_), ?_, rfl⟩
       (repeat' first|exact tm|refine aN ?_ ?_)
       exact congrArg (SV.int .i64) (eor.trans (congrArg (fun z : Nat => (z : Int)) st.symm))
      ·have dg2 : decide (dooF x (0 + ((i : Nat) : Int).toNat) < dooF x (0 + ((o : Nat) : Int).toNat) + 30) = false := decide_eq_false g2
       have st : hutM t x (x i).2 (o + 1) = hutM t x (x i).2 o := by
        rw [hutM, hin, decide_eq_false (show ¬ (x i).2 < (x o).2 + 30 by omega), Bool.and_false]
        rfl
       (repeat' first|exact aq|refine aN ?_ ?_|exact trivial)
       all_goals first | exact dd | skip
       refine drawP E_ok [] pl6_34 (by kernel_rfl) ?_
       (repeat' first|exact aq|refine aN ?_ ?_|exact trivial)
       all_goals first | exact dd | skip
       all_goals (repeat' first|exact aq|refine aN ?_ ?_|exact trivial)
       all_goals first | exact dd | skip
       all_goals intro hw
       all_goals first | (exfalso; (try rw [dg1] at hw); (try rw [dg2] at hw); exact Bool.noConfusion (show true = false from hw)) | (exfalso; (try rw [dg1] at hw); (try rw [dg2] at hw); exact Bool.noConfusion (show false = true from hw)) | skip
       (repeat' first|exact aq|refine aN ?_ ?_|exact trivial)
       all_goals first | exact dd | skip
       refine ⟨o + 1, ho', by omega, ?_⟩
       refine ent_tau [0, 1, 2, 3, 4, 5, 6, 7, 8, 9] ⟨by (repeat' first|exact fp|refine aN ?_ ?_), ?_, rfl⟩
       (repeat' first|exact tm|refine aN ?_ ?_)
       exact congrArg (fun z : Nat => SV.int .i64 z) st.symm
     ·have dg1 : decide (dooF x (0 + ((o : Nat) : Int).toNat) ≤ dooF x (0 + ((i : Nat) : Int).toNat)) = false := decide_eq_false g1
      have st : hutM t x (x i).2 (o + 1) = hutM t x (x i).2 o := by
       rw [hutM, hin, decide_eq_false (show ¬ (x o).2 ≤ (x i).2 by omega), Bool.false_and]
       rfl
      (repeat' first|exact aq|refine aN ?_ ?_|exact trivial)
      all_goals first | exact dd | skip
      refine drawP E_ok [] pl6_34 (by kernel_rfl) ?_
      (repeat' first|exact aq|refine aN ?_ ?_|exact trivial)
      all_goals first | exact dd | skip
      all_goals (repeat' first|exact aq|refine aN ?_ ?_|exact trivial)
      all_goals first | exact dd | skip
      all_goals intro hw
      all_goals first | (exfalso; (try rw [dg1] at hw); exact Bool.noConfusion (show true = false from hw)) | (exfalso; (try rw [dg1] at hw); exact Bool.noConfusion (show false = true from hw)) | skip
      (repeat' first|exact aq|refine aN ?_ ?_|exact trivial)
      all_goals first | exact dd | skip
      refine ⟨o + 1, ho', by omega, ?_⟩
      refine ent_tau [0, 1, 2, 3, 4, 5, 6, 7, 8, 9] ⟨by (repeat' first|exact fp|refine aN ?_ ?_), ?_, rfl⟩
      (repeat' first|exact tm|refine aN ?_ ?_)
      exact congrArg (fun z : Nat => SV.int .i64 z) st.symm
    ·obtain rfl : o = t.n := by
      have := of_decide_eq_false hco
      omega
     have c38 := t38 (hutM t x (x i).2 t.n) (by omega)
     rw [TK.hutM_pop hv] at c38
     have um := TK.usedN_le (t := t) x (x i).2
     obtain ⟨m0, m1⟩ := TK.mostF_le hv x i
     (repeat' first|exact aq|refine aN ?_ ?_|exact trivial)
     all_goals first | exact dd | skip
     refine c38.use [] ?_ (by (repeat' first|exact fp|refine aN ?_ ?_)) rfl
     (repeat' first|exact aq|refine aN ?_ ?_|exact trivial)
     all_goals first | exact dd | skip
     refine ⟨i + 1, hi', by omega, ?_⟩
     refine ent_tau [0, 1, 2, 3, 4, 5, 6, 7, 8, 9] ⟨by (repeat' first|exact fp|refine aN ?_ ?_), ?_, rfl⟩
     (repeat' first|exact tm|refine aN ?_ ?_)
     refine congrArg (SV.int .i64) ?_
     rw [TK.mostF]
     split <;> omega
 ·obtain rfl : i = t.n := by
   have := of_decide_eq_false hci
   omega
  (repeat' first|exact aq|refine aN ?_ ?_|exact trivial)
  refine CodeP.part (seg6e b n cap by' c hc0 t x fr B cb cd (TK.longest x t.n) (t.mostF x t.n) ((odN t x t.n : Nat) : Int) w1 w2 b1 b2 r1 r2 S) ?_
  exact ent_tau [0, 1, 2, 3, 4, 5, 6, 7, 8, 9] ⟨by (repeat' first|exact fp|refine aN ?_ ?_), by (repeat' first|exact tm|refine aN ?_ ?_), rfl⟩
end Go.Proofs.Ytioajogaghgipaa
/-
 TicketTrue.
-/
namespace Go.Proofs.Ytioajogaghgipaa
open Go Go.Sy Tic
set_option linter.unusedSimpArgs false
set_option maxRecDepth 100000
set_option maxHeartbeats 4000000
attribute [local irreducible] CallP CodeP Ent YieldP
set_option maxHeartbeats 16000000
-- fast: YtioajogaghgipaaDd

def T6g (t : TK) (cb cd : Nat) : Tm := mkT [] [(2, .bool false), (3, .fn (.func 93) [] [.ptr 2 0, .ptr 1 0]), (4, .ptr 6 0), (5, .osl t.b 4 1 t.n cb), (6, .osl t.b 5 1 t.n cd)] 0 (List.replicate 455 none)
theorem seg6g (b : Bool) (n cap : Nat) (by' : Nat → Int) (c : Int) (hc0 : 0 ≤ c ∧ c ≤ 930000) (t : TK) (x : Tru) (fr : Nat → Int) (B : BT t x fr n by') (cb cd : Nat) :
  CodeP Try.prog none 1 (sufC Try.f6 3) ⟨T6g t cb cd, H6 b n cap by' c t x, []⟩ (KRet E Try.f6 1 (.bool true) (H60 n by')) := by
 have hv := B.valid
 have hn5 := B.m.n5
 have hu := B.m.hu
 have hI : InR .i64 t.huts := ⟨by omega, by omega⟩
 have c24 := t24 t (by omega) hI
 have c26 := t26 t (by omega) hI
 have c28 := t28 t (by omega) hI
 have c30 := t30 t (by omega) hI
 rw [sp_is hv B.ne] at c24 c26 c28
 rw [cla_none hv B.ne] at c30
 dsimp only at c24 c26 c28 c30
 refine codeP_XK E_ok 5 ?_
 (repeat' first|exact aq|refine aN ?_ ?_|exact trivial)
 refine c24.use [3] ?_ (by (repeat' first|exact fp|refine aN ?_ ?_)) rfl
 (repeat' first|exact aq|refine aN ?_ ?_|exact trivial)
 refine c26.use [3] ?_ (by (repeat' first|exact fp|refine aN ?_ ?_)) rfl
 (repeat' first|exact aq|refine aN ?_ ?_|exact trivial)
 refine c28.use [3] ?_ (by (repeat' first|exact fp|refine aN ?_ ?_)) rfl
 (repeat' first|exact aq|refine aN ?_ ?_|exact trivial)
 refine c30.use [3] ?_ (by (repeat' first|exact fp|refine aN ?_ ?_)) rfl
 all_goals (repeat' first|exact aq|refine aN ?_ ?_|exact trivial)
 all_goals first | exact dd | skip
 all_goals intro h1
 all_goals first | exact absurd h1 (by decide) | (cases h1; done) | skip
 (repeat' first|exact aq|refine aN ?_ ?_|exact trivial)
 refine CodeP.part (seg6f b n cap by' c hc0 t x fr B cb cd t.waits.1 t.waits.2 t.busy.1 t.busy.2 t.wrong.1 t.wrong.2 (true_sm hv B.mem)) ?_
 exact ent_tau [0, 1, 2, 3, 4, 5, 6, 7, 8, 9] ⟨by (repeat' first|exact fp|refine aN ?_ ?_), by (repeat' first|exact tm|refine aN ?_ ?_), rfl⟩
theorem t6 (b : Bool) (n cap : Nat) (by' : Nat → Int) (hby : ∀ k, 0 ≤ by' k ∧ by' k ≤ 65535) (hn : n ≤ 9223372036854775807) : CallP Try.prog 6 [.osl b 0 1 n cap] (H60 n by') (Ret (.bool true) (H60 n by')) := by
 refine callRK (E := E) E_ok 3 Try.func6 rfl ?_
 (repeat' first|exact aq|refine aN ?_ ?_|exact trivial)
 refine (t34 b n cap by').use [0] ?_ (by (repeat' first|exact fp|refine aN ?_ ?_)) rfl
 (repeat' first|exact aq|refine aN ?_ ?_|exact trivial)
 refine CallP.frameH (t35 b n cap by' hby hn 0 ⟨by decide, by decide⟩) [2, 1, 0] (by (repeat' first|exact fp|refine aN ?_ ?_)) rfl ?_
 rintro ce h' ⟨t, x, fr, cb, cd, c, M, hc, (⟨h0, hb, hcap, rfl, rfl⟩ | ⟨h0, hb, hcap, hcb, hcd, rfl, rfl⟩)⟩
 ·refine ⟨rfl, ?_⟩
  (repeat' first|exact aq|refine aN ?_ ?_|exact trivial)
  refine CodeP.pre ?_ (seg6g b n cap by' c ⟨hc.1, by omega⟩ t x fr ⟨M, hby, hn⟩ 0 0)
  refine Ent.trans (entTm (T' := mkT [] [(2, .bool false), (3, .fn (.func 93) [] [.ptr 2 0, .ptr 1 0]), (4, .ptr 3 0), (5, .osl t.b 5 1 t.n 0), (6, .osl t.b 6 1 t.n 0)] 0 (List.replicate 455 none)) ?_) ?_
  ·(repeat' (first | exact trivial | exact rfl | exact fun _ => rfl | exact (fun η => by simp [den, hb, h0]) | refine And.intro ?_ ?_))
  refine Ent.trans (entCells (i := 3) (cs := [.int .i64 t.huts, .osl false 3 5 0 0]) (cs' := [.int .i64 t.huts, .osl t.b 4 5 t.n t.cap]) rfl (fun η => by simp [denL, den, hb, h0, hcap])) ?_
  refine Ent.trans (entAlias (i := 0) rfl 5 (TF t)) (Ent.trans (entAlias (i := 0) rfl 1 (rI (bouF x))) (Ent.trans (entAlias (i := 0) rfl 1 (rI (dooF x))) ?_))
  refine ent_tau [0, 1, 2, 4, 5, 6, 3] ⟨?_, by (repeat' first|exact tm|refine aN ?_ ?_), rfl⟩
  (repeat' first|exact fp|refine aN ?_ ?_)
  all_goals first | exact h0 | exact h0.symm | omega
 ·refine ⟨rfl, ?_⟩
  (repeat' first|exact aq|refine aN ?_ ?_|exact trivial)
  refine CodeP.pre ?_ (seg6g b n cap by' c ⟨hc.1, by omega⟩ t x fr ⟨M, hby, hn⟩ cb cd)
  refine Ent.trans (t := ⟨mkT [] [(2, .bool false), (3, .fn (.func 93) [] [.ptr 2 0, .ptr 1 0]), (4, .ptr 6 0), (5, .osl true 4 1 t.n cb), (6, .osl true 5 1 t.n cd)] 0 (List.replicate 455 none), [some (.roa 1 n fun k => [.int .u16 (by' k)]), some (.cells [.osl b 0 1 n cap]), some (.cells [.int .i64 c]), some (.roa 5 t.n (TF t)), some (.roa 1 t.n (rI (bouF x))), some (.roa 1 t.n (rI (dooF x))), some (.cells [.int .i64 t.huts, .osl true 3 5 t.n t.cap])], []⟩) ?_ ?_
  ·exact ent_tau [0, 1, 2, 3, 4, 5, 6] ⟨by (repeat' first|exact fp|refine aN ?_ ?_), by (repeat' first|exact tm|refine aN ?_ ?_), rfl⟩
  refine Ent.trans (entCells (i := 6) (cs := [.int .i64 t.huts, .osl true 3 5 t.n t.cap]) (cs' := [.int .i64 t.huts, .osl t.b 3 5 t.n t.cap]) rfl (fun η => by rw [hb])) ?_
  refine Ent.trans (entTm (T' := mkT [] [(2, .bool false), (3, .fn (.func 93) [] [.ptr 2 0, .ptr 1 0]), (4, .ptr 6 0), (5, .osl t.b 4 1 t.n cb), (6, .osl t.b 5 1 t.n cd)] 0 (List.replicate 455 none)) ?_) ?_
  ·(repeat' (first | exact trivial | exact rfl | exact fun _ => rfl | exact (fun η => by rw [hb]) | refine And.intro ?_ ?_))
  exact ent_tau [0, 1, 2, 3, 4, 5, 6] ⟨by (repeat' first|exact fp|refine aN ?_ ?_), by (repeat' first|exact tm|refine aN ?_ ?_), rfl⟩
end Go.Proofs.Ytioajogaghgipaa
