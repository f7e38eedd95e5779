/-
  Parts: U1, U2, U3, U4, U5, U6.
-/
import Derived.Test.YtioajogaghgipaaP25
set_option linter.unusedVariables false
/-
 TicketTrue: draws.
-/
namespace Go.Proofs.Ytioajogaghgipaa
open Go Go.Sy Tic
set_option linter.unusedSimpArgs false
set_option maxRecDepth 100000
set_option maxHeartbeats 4000000
attribute [local irreducible] CallP CodeP Ent YieldP
set_option maxHeartbeats 16000000

def HDr (b : Bool) (n cap : Nat) (by' : Nat → Int) (c : Int) : SHeap := [some (.cells [.int .i64 c]), some (.roc [.osl b 2 1 n cap]), some (.roa 1 n fun k => [.int .u16 (by' k)])]
theorem t93 (b : Bool) (n cap : Nat) (by' : Nat → Int) (hby : ∀ k, 0 ≤ by' k ∧ by' k ≤ 65535) (hn : n ≤ 9223372036854775807) (c : Int) (hc : 0 ≤ c ∧ c ≤ 1000000) (m : Int) (hm : 1 ≤ m ∧ m ≤ 1000) :
  CallP Try.prog 93 [.int .i64 m, .ptr 0 0, .ptr 1 0] (HDr b n cap by' c) (fun ce h' => ∃ v : Int, 0 ≤ v ∧ v < m ∧ ce = .ret (.int .i64 v) ∧ h' = HDr b n cap by' (c + 1)) := by
 refine callK (E := E) E_ok Try.func93 rfl ?_
 refine And.intro ?_ (And.intro (fun h => ?_) (fun h => ?_))
 ·(repeat' first|exact aq|refine aN ?_ ?_|exact trivial)
  all_goals first | exact dd | skip
 ·have r0 := Int.tmod_nonneg m (show 0 ≤ c + 1 by omega)
  have r1 := Int.tmod_lt_of_pos (c + 1) (show 0 < m by omega)
  (repeat' first|exact aq|refine aN ?_ ?_|exact trivial)
  all_goals first | exact dd | skip
  refine ⟨_, _, ⟨(c + 1).tmod m, r0, r1, rfl, rfl⟩, ?_⟩
  exact ent_tau [0, 1, 2] ⟨by (repeat' first|exact fp|refine aN ?_ ?_), by (repeat' first|exact tm|refine aN ?_ ?_), rfl⟩
 ·have hn0 : n ≠ 0 := fun e => by
   subst e
   exact absurd h (by decide)
  have j0 := Int.tmod_nonneg (n : Int) (show 0 ≤ c + 1 by omega)
  have j1 := Int.tmod_lt_of_pos (c + 1) (show 0 < (n : Int) by omega)
  have hb1 := hby (0 + ((c + 1).tmod (n : Int)).toNat)
  have r0 := Int.tmod_nonneg m (show 0 ≤ by' (0 + ((c + 1).tmod (n : Int)).toNat) + 59 * (c + 1) by omega)
  have r1 := Int.tmod_lt_of_pos (by' (0 + ((c + 1).tmod (n : Int)).toNat) + 59 * (c + 1)) (show 0 < m by omega)
  (repeat' first|exact aq|refine aN ?_ ?_|exact trivial)
  all_goals first | exact dd | skip
  refine drawP E_ok [0] pl93_4 (by kernel_rfl) ?_
  (repeat' first|exact aq|refine aN ?_ ?_|exact trivial)
  all_goals first | exact dd | skip
  all_goals first | ((with_reducible show under _ _); first | exact un (by omega) | exact un ((inR_iff _).2 ⟨by omega, by omega⟩)) | skip
  refine ⟨_, _, ⟨(by' (0 + ((c + 1).tmod (n : Int)).toNat) + 59 * (c + 1)).tmod m, r0, r1, rfl, rfl⟩, ?_⟩
  exact ent_tau [0, 1, 2] ⟨by (repeat' first|exact fp|refine aN ?_ ?_), by (repeat' first|exact tm|refine aN ?_ ?_), rfl⟩
def HDg (b : Bool) (n cap : Nat) (by' : Nat → Int) (c : Int) : SHeap := HDr b n cap by' c ++ [some (.roc [.fn (.func 93) [] [.ptr 0 0, .ptr 1 0]])]
theorem t94 (b : Bool) (n cap : Nat) (by' : Nat → Int) (hby : ∀ k, 0 ≤ by' k ∧ by' k ≤ 65535) (hn : n ≤ 9223372036854775807) (c : Int) (hc : 0 ≤ c ∧ c ≤ 999000) (x : Int) (hx : 0 ≤ x ∧ x ≤ 240) :
  CallP Try.prog 94 [.int .i64 x, .ptr 3 0] (HDg b n cap by' c) (fun ce h' => ∃ lo hi : Int, (0 ≤ lo ∧ lo ≤ x ∧ x ≤ hi ∧ hi ≤ 240 ∧ hi - lo ≤ 2) ∧ ce = .ret (.agg [.int .i64 lo, .int .i64 hi]) ∧ h' = HDg b n cap by' (c + 2)) := by
 refine callK (E := E) E_ok Try.func94 rfl ?_
 (repeat' first|exact aq|refine aN ?_ ?_|exact trivial)
 refine CallP.frameH (t93 b n cap by' hby hn c (by omega) 2 (by decide)) [0, 1, 2] (by (repeat' first|exact fp|refine aN ?_ ?_)) rfl ?_
 rintro ce h' ⟨v, hv0, hv1, rfl, rfl⟩
 refine ⟨rfl, ?_⟩
 obtain ⟨lo, elo⟩ : ∃ lo : Int, (if x - v > 0 then x - v else 0) = lo := ⟨_, rfl⟩
 have hlo : 0 ≤ lo ∧ lo ≤ x ∧ x - lo ≤ 1 := by
  rw [← elo]
  split <;> omega
 (repeat' first|exact aq|refine aN ?_ ?_|exact trivial)
 all_goals first | exact dd | skip
 all_goals first | ((with_reducible show (_ : Int) ≤ _); rw [elo]; omega) | ((with_reducible show under _ _); rw [elo]; exact dd) | skip
 have cd := t93 b n cap by' hby hn (c + 1) (by omega) (3 - (x - lo)) (by omega)
 rw [← elo] at cd
 refine CallP.frameH cd [0, 1, 2] (by (repeat' first|exact fp|refine aN ?_ ?_)) rfl ?_
 rintro ce h' ⟨u, hu0, hu1, rfl, rfl⟩
 refine ⟨rfl, ?_⟩
 obtain ⟨hi, ehi⟩ : ∃ hi : Int, (if x + u < 240 then x + u else 240) = hi := ⟨_, rfl⟩
 have hhi : x ≤ hi ∧ hi ≤ 240 ∧ hi ≤ x + u := by
  rw [← ehi]
  split <;> omega
 have c33 := t33 lo hi
 rw [← elo, ← ehi] at c33
 (repeat' first|exact aq|refine aN ?_ ?_|exact trivial)
 all_goals first | exact dd | skip
 refine (c33).use [] ?_ (by (repeat' first|exact fp|refine aN ?_ ?_)) rfl
 (repeat' first|exact aq|refine aN ?_ ?_|exact trivial)
 all_goals first | exact dd | skip
 refine ⟨_, _, ⟨lo, hi, ⟨hlo.1, hlo.2.1, hhi.1, hhi.2.1, by omega⟩, rfl, rfl⟩, ?_⟩
 refine ent_tau [0, 1, 2, 3] ⟨?_, ?_, rfl⟩
 ·(repeat' first|exact fp|refine aN ?_ ?_)
  exact congrArg (fun z => [SV.int .i64 z]) (show c + 1 + 1 = c + 2 by omega)
 ·refine ⟨rfl, ?_, trivial⟩
  rw [← elo, ← ehi]
  rfl
end Go.Proofs.Ytioajogaghgipaa
/-
 TicketTrue: plain law of tickets that are made.
-/
namespace Go.Proofs.Ytioajogaghgipaa
open Go Go.Sy Tic

def updI (f : Nat → Int) (k : Nat) (v : Int) : Nat → Int := fun i => if i = k then v else f i
theorem updI_same (f : Nat → Int) (k : Nat) (v : Int) : updI f k v k = v := if_pos rfl
theorem updI_other (f : Nat → Int) {k i : Nat} (v : Int) (h : i ≠ k) : updI f k v i = f i := if_neg h
def pushT (t : TK) (h lo hi lo2 hi2 : Int) : TK := { t with n := t.n + 1, bl := updI t.bl t.n lo, bh := updI t.bh t.n hi, hut := updI t.hut t.n h, dl := updI t.dl t.n lo2, dh := updI t.dh t.n hi2 }
structure Mk (t : TK) (x : Tru) (fr : Nat → Int) : Prop where
 hu : 1 ≤ t.huts ∧ t.huts ≤ 4
 n5 : t.n ≤ 5
 ok : ∀ i, i < t.n → t.okT i ∧ t.okP i (x i)
 nr : ∀ i k, i < t.n → k < t.n → i ≠ k → t.hut i = t.hut k → TK.near (x i).2 (x k).2 = false
 fre : ∀ i, i < t.n → (x i).2 + 30 ≤ fr (t.hut i).toNat
 rg : ∀ h, 0 ≤ fr h ∧ fr h ≤ 39 * t.n
 fl : ∀ i, t.n ≤ i → x i = (0, 0)
theorem Mk.valid {t : TK} {x : Tru} {fr : Nat → Int} (m : Mk t x fr) : t.Valid := ⟨m.hu, m.n5, fun i hi => (m.ok i hi).1⟩
theorem Mk.mem {t : TK} {x : Tru} {fr : Nat → Int} (m : Mk t x fr) : x ∈ t.trs := TK.mem_trs.2 ⟨m.fl, fun i hi => (m.ok i hi).2, m.nr⟩
theorem Mk.zero {t : TK} (hu : 1 ≤ t.huts ∧ t.huts ≤ 4) (h0 : t.n = 0) : Mk t (fun _ => (0, 0)) (fun _ => 0) :=
 ⟨hu, by omega, fun i hi => by omega, fun i k hi => by omega, fun i hi => by omega, fun h => by omega, fun i _ => rfl⟩
theorem Mk.push {t : TK} {x : Tru} {fr : Nat → Int} (m : Mk t x fr) (hn : t.n ≤ 4) {h : Int} (hh : 0 ≤ h ∧ h ≤ t.huts - 1) {d a e lo hi lo2 hi2 b : Int} (hd : 0 ≤ d ∧ d ≤ 7) (hb : b = fr h.toNat + d) (ha : 0 ≤ a ∧ a ≤ b) (he : 0 ≤ e ∧ e ≤ 2)
  (s1 : 0 ≤ lo ∧ lo ≤ a ∧ a ≤ hi ∧ hi ≤ 240 ∧ hi - lo ≤ 2) (s2 : 0 ≤ lo2 ∧ lo2 ≤ b ∧ b ≤ hi2 ∧ hi2 ≤ 240 ∧ hi2 - lo2 ≤ 2) :
  Mk (pushT t h lo hi lo2 hi2) (TK.updT x t.n (a, b)) (updI fr h.toNat (b + 30 + e)) := by
 have r := m.rg h.toNat
 have old : ∀ i, i < t.n → ¬ i = t.n := fun i hi => by omega
 refine ⟨m.hu, by show t.n + 1 ≤ 5; omega, fun i hi => ?_, fun i k hi hk hne e2 => ?_, fun i hi => ?_, fun g => ?_, fun i hi => ?_⟩
 ·have hi : i < t.n + 1 := hi
  unfold TK.okT TK.okP spanOk pushT updI TK.updT
  simp only
  by_cases c : i = t.n
  ·simp only [if_pos c]
   omega
  ·have o := m.ok i (by omega)
   unfold TK.okT TK.okP spanOk at o
   simp only [if_neg c]
   exact o
 ·have hi : i < t.n + 1 := hi
  have hk : k < t.n + 1 := hk
  have e2 : updI t.hut t.n h i = updI t.hut t.n h k := e2
  have key : ∀ j, j < t.n → t.hut j = h → TK.near (x j).2 b = false := fun j hj e => by
   have q := m.fre j hj
   rw [e] at q
   rw [Bool.eq_false_iff, ne_eq, TK.near_iff]
   omega
  unfold TK.updT
  by_cases ci : i = t.n
  ·subst ci
   have ck : ¬ k = t.n := fun z => hne z.symm
   rw [updI_same, updI_other _ _ ck] at e2
   rw [if_pos rfl, if_neg ck, TK.near_comm]
   exact key k (by omega) e2.symm
  ·by_cases ck : k = t.n
   ·subst ck
    rw [updI_same, updI_other _ _ ci] at e2
    rw [if_pos rfl, if_neg ci]
    exact key i (by omega) e2
   ·rw [updI_other _ _ ci, updI_other _ _ ck] at e2
    rw [if_neg ci, if_neg ck]
    exact m.nr i k (by omega) (by omega) hne e2
 ·have hi : i < t.n + 1 := hi
  show (TK.updT x t.n (a, b) i).2 + 30 ≤ updI fr h.toNat (b + 30 + e) (updI t.hut t.n h i).toNat
  unfold TK.updT
  by_cases ci : i = t.n
  ·subst ci
   rw [if_pos rfl, updI_same, updI_same]
   simp only
   omega
  ·have q := m.fre i (by omega)
   rw [if_neg ci, updI_other _ _ ci]
   unfold updI
   split
   ·rename_i z
    rw [z] at q
    omega
   ·exact q
 ·have q := m.rg g
  show 0 ≤ updI fr h.toNat (b + 30 + e) g ∧ updI fr h.toNat (b + 30 + e) g ≤ 39 * ((t.n + 1 : Nat) : Int)
  unfold updI
  split <;> omega
 ·have hi : t.n + 1 ≤ i := hi
  unfold TK.updT
  rw [if_neg (by omega)]
  exact m.fl i (by omega)
end Go.Proofs.Ytioajogaghgipaa
/-
 TicketTrue: tickets that can be so, as they are made.
-/
namespace Go.Proofs.Ytioajogaghgipaa
open Go Go.Sy Tic
set_option linter.unusedSimpArgs false
set_option maxRecDepth 100000
set_option maxHeartbeats 4000000
attribute [local irreducible] CallP CodeP Ent YieldP
set_option maxHeartbeats 16000000
-- fast: YtioajogaghgipaaDd

def pl35_10s : Plan := eg [0, 2, 3, 5, 6, 7] <| .alt 1 (.alt 4 (.alt 8 (.eager 9 <| .alt 10 (.alt 11 (.eager 12 <| .alt 13 (.done) .no) .no) .no) .no) .no) (.alt 4 (.alt 1 (.alt 8 (.eager 9 <| .alt 10 (.alt 11 (.eager 12 <| .alt 13 (.done) .no) .no) .no) .no) (.alt 8 (.eager 9 <| .alt 1 (.alt 10 (.alt 11 (.eager 12 <| .alt 13 (.done) .no) .no) .no) (.alt 10 (.alt 1 (.alt 11 (.eager 12 <| .alt 13 (.done) .no) .no) .no) .no)) .no)) .no)
theorem dp {P : Prop} (h : P := by first
 | ((with_reducible show (_ : Int) ≤ _); dsimp only; omega)
 | ((with_reducible show (_ : Int) < _); dsimp only; omega)
 | ((with_reducible show (_ : Nat) ≤ _); dsimp only; omega)
 | ((with_reducible show (_ : Nat) < _); dsimp only; omega)
 | ((with_reducible show under _ _); dsimp only; first | exact u1 (lt64 (by omega)) | exact u0 (lt64 (by omega)) | exact un ((inR_iff _).2 ⟨by omega, by omega⟩) | exact un (by omega) | exact u1 ⟨by omega, by omega⟩ | exact u0 (by omega))) : P := h
def rI (f : Nat → Int) (k : Nat) : List SV := [.int .i64 (f k)]
def bouF (x : Tru) (k : Nat) : Int := (x k).1
def dooF (x : Tru) (k : Nat) : Int := (x k).2
def KMk (b : Bool) (n cap : Nat) (by' : Nat → Int) : CE → SHeap → Prop := fun ce h' => ∃ (t : TK) (x : Tru) (fr : Nat → Int) (cb cd : Nat) (c : Int), Mk t x fr ∧ (0 ≤ c ∧ c ≤ 900000) ∧
 ((t.n = 0 ∧ t.b = false ∧ t.cap = 0 ∧ ce = .ret (.tup [.agg [.int .i64 t.huts, .osl false 3 5 0 0], .osl false 4 1 0 0, .osl false 5 1 0 0]) ∧ h' = HDr b n cap by' c) ∨
 (0 < t.n ∧ t.b = true ∧ (t.n ≤ t.cap ∧ t.cap ≤ 9223372036854775807) ∧ (t.n ≤ cb ∧ cb ≤ 9223372036854775807) ∧ (t.n ≤ cd ∧ cd ≤ 9223372036854775807) ∧
  ce = .ret (.tup [.agg [.int .i64 t.huts, .osl true 3 5 t.n t.cap], .osl true 4 1 t.n cb, .osl true 5 1 t.n cd]) ∧
  h' = HDr b n cap by' c ++ [some (.arr 5 t.n t.cap (TF t)), some (.arr 1 t.n cb (rI (bouF x))), some (.arr 1 t.n cd (rI (dooF x)))]))
def HM0 (b : Bool) (n cap : Nat) (by' : Nat → Int) (c huts : Int) (H : Nat) (fr : Nat → Int) : SHeap := HDr b n cap by' c ++ [some (.cells [.fn (.func 93) [] [.ptr 0 0, .ptr 1 0]]), some (.cells [.int .i64 huts, .snil]), some (.arr 1 H H (rI fr))]
def HM1 (b : Bool) (n cap : Nat) (by' : Nat → Int) (c huts : Int) (H : Nat) (fr : Nat → Int) (k : Nat) (t : TK) (x : Tru) (cb cd : Nat) : SHeap := HDr b n cap by' c ++ [some (.cells [.fn (.func 93) [] [.ptr 0 0, .ptr 1 0]]), some (.cells [.int .i64 huts, .slice 6 5 0 k t.cap]), some (.arr 1 H H (rI fr)), some (.arr 5 k t.cap (TF t)), some (.arr 1 k cb (rI (bouF x))), some (.arr 1 k cd (rI (dooF x)))]
theorem Mk.bc {t : TK} {x : Tru} {fr : Nat → Int} (m : Mk t x fr) (b : Bool) (c : Nat) : Mk { t with b := b, cap := c } x fr := ⟨m.hu, m.n5, m.ok, m.nr, m.fre, m.rg, m.fl⟩
theorem row_fr {σ : Nat → Nat} {fr : Nat → Int} {q n : Nat} {v w : Int} (hv : v = w) : ∀ m, m < n → selL (decide (m = 0 + q)) (splice (rI fr (0 + q)) 0 [SV.int .i64 v]) (rI fr m) = renL σ (rI (updI fr q w) m) := fun m _ => by
 subst hv
 unfold rI updI
 rw [Nat.zero_add]
 by_cases h : m = q
 ·subst h
  rw [decide_eq_true rfl, selL_true, if_pos rfl]
  rfl
 ·rw [decide_eq_false h, selL_false, if_neg h]
  rfl
theorem row_t0 {σ : Nat → Nat} {t : TK} {q lo hi lo2 hi2 : Int} {b : Bool} {c : Nat} (hn : t.n = 0) : ∀ k, k < 1 → getOf 5 (splice (repL 1 [SV.int .i64 0, SV.int .i64 0, SV.int .i64 0, SV.int .i64 0, SV.int .i64 0]) (0 * 5) [SV.int .i64 lo, SV.int .i64 hi, SV.int .i64 q, SV.int .i64 lo2, SV.int .i64 hi2]) (0 + k) = renL σ (TF { pushT t q lo hi lo2 hi2 with b := b, cap := c } k) := fun k hk => by
 obtain rfl : k = 0 := by omega
 show [SV.int .i64 lo, SV.int .i64 hi, SV.int .i64 q, SV.int .i64 lo2, SV.int .i64 hi2] = _
 unfold TF pushT
 rw [hn]
 simp only [updI_same]
 rfl
theorem row_b0 {σ : Nat → Nat} {x : Tru} {n : Nat} {A B : Int} (hn : n = 0) : ∀ k, k < 1 → getOf 1 (splice (repL 1 [ti3.zero]) (0 * 1) [SV.int .i64 A]) (0 + k) = renL σ (rI (bouF (TK.updT x n (A, B))) k) := fun k hk => by
 obtain rfl : k = 0 := by omega
 subst hn
 rfl
theorem row_d0 {σ : Nat → Nat} {x : Tru} {n : Nat} {A B : Int} (hn : n = 0) : ∀ k, k < 1 → getOf 1 (splice (repL 1 [ti3.zero]) (0 * 1) [SV.int .i64 B]) (0 + k) = renL σ (rI (dooF (TK.updT x n (A, B))) k) := fun k hk => by
 obtain rfl : k = 0 := by omega
 subst hn
 rfl
theorem row_t1 {σ : Nat → Nat} {t : TK} {q lo hi lo2 hi2 : Int} {b : Bool} {c n : Nat} (hn : t.n = n) : ∀ k, k < n + 1 → selL (decide (k < n)) (TF t k) (getOf 5 (splice (repL 1 [SV.int .i64 0, SV.int .i64 0, SV.int .i64 0, SV.int .i64 0, SV.int .i64 0]) (0 * 5) [SV.int .i64 lo, SV.int .i64 hi, SV.int .i64 q, SV.int .i64 lo2, SV.int .i64 hi2]) (0 + (k - n))) = renL σ (TF { pushT t q lo hi lo2 hi2 with b := b, cap := c } k) := fun k hk => by
 subst hn
 unfold TF pushT updI
 simp only
 by_cases h : k < t.n
 ·have h' : ¬ k = t.n := by omega
  rw [decide_eq_true h, selL_true]
  simp only [if_neg h']
  rfl
 ·obtain rfl : k = t.n := by omega
  rw [decide_eq_false h, selL_false, Nat.sub_self]
  simp only [if_true]
  rfl
theorem row_b1 {σ : Nat → Nat} {x : Tru} {n : Nat} {m : Nat} {A B : Int} (hn : m = n) : ∀ k, k < n + 1 → selL (decide (k < n)) (rI (bouF x) k) (getOf 1 (splice (repL 1 [ti3.zero]) (0 * 1) [SV.int .i64 A]) (0 + (k - n))) = renL σ (rI (bouF (TK.updT x m (A, B))) k) := fun k hk => by
 subst hn
 unfold rI bouF TK.updT
 by_cases h : k < m
 ·rw [decide_eq_true h, selL_true, if_neg (by omega)]
  rfl
 ·obtain rfl : k = m := by omega
  rw [decide_eq_false h, selL_false, Nat.sub_self, if_pos rfl]
  rfl
theorem row_d1 {σ : Nat → Nat} {x : Tru} {n : Nat} {m : Nat} {A B : Int} (hn : m = n) : ∀ k, k < n + 1 → selL (decide (k < n)) (rI (dooF x) k) (getOf 1 (splice (repL 1 [ti3.zero]) (0 * 1) [SV.int .i64 B]) (0 + (k - n))) = renL σ (rI (dooF (TK.updT x m (A, B))) k) := fun k hk => by
 subst hn
 unfold rI dooF TK.updT
 by_cases h : k < m
 ·rw [decide_eq_true h, selL_true, if_neg (by omega)]
  rfl
 ·obtain rfl : k = m := by omega
  rw [decide_eq_false h, selL_false, Nat.sub_self, if_pos rfl]
  rfl
theorem t35 (b : Bool) (n cap : Nat) (by' : Nat → Int) (hby : ∀ k, 0 ≤ by' k ∧ by' k ≤ 65535) (hn : n ≤ 9223372036854775807) (c : Int) (hc : 0 ≤ c ∧ c ≤ 300000) :
  CallP Try.prog 35 [.fn (.func 93) [] [.ptr 0 0, .ptr 1 0]] (HDr b n cap by' c) (KMk b n cap by') := by
 refine callKK (E := E) E_ok 2 Try.func35 rfl ?_
 (repeat' first|exact aq|refine aN ?_ ?_|exact trivial)
 refine CallP.frameH (t93 b n cap by' hby hn c (by omega) 4 (by decide)) [0, 1, 2] (by (repeat' first|exact fp|refine aN ?_ ?_)) rfl ?_
 rintro ce h' ⟨v, hv0, hv1, rfl, rfl⟩
 refine ⟨rfl, ?_⟩
 (repeat' first|exact aq|refine aN ?_ ?_|exact trivial)
 all_goals first | exact dd | skip
 obtain ⟨N, eN⟩ : ∃ N : Nat, 1 + v = (N : Int) := ⟨(1 + v).toNat, by omega⟩
 refine cutP [] [(1, .ptr 3 0), (2, .ptr 4 0), (3, .snil), (4, .snil)] (fun _ => HDr b n cap by' (c + 1) ++ [some (.cells [.fn (.func 93) [] [.ptr 0 0, .ptr 1 0]]), some (.cells [.int .i64 N, .snil])]) ?_ ?_
 ·refine ent_tau [0, 1, 2, 3, 4] ⟨?_, by (repeat' first|exact tm|refine aN ?_ ?_), rfl⟩
  (repeat' first|exact fp|refine aN ?_ ?_)
  exact congrArg (fun z => [SV.int .i64 z, SV.snil]) eN
 refine codeP_XK E_ok 3 ?_
 (repeat' first|exact aq|refine aN ?_ ?_|exact trivial)
 all_goals first | exact dd | skip
 ·show (8 : Int) * (N : Int) ≤ 281474976710656
  omega
 refine CallP.frameH (t93 b n cap by' hby hn (c + 1) (by omega) 6 (by decide)) [0, 1, 2] (by (repeat' first|exact fp|refine aN ?_ ?_)) rfl ?_
 rintro ce h' ⟨m, hm0, hm1, rfl, rfl⟩
 refine ⟨rfl, ?_⟩
 (repeat' first|exact aq|refine aN ?_ ?_|exact trivial)
 all_goals first | exact dd | skip
 obtain ⟨M, eM⟩ : ∃ M : Nat, m = (M : Int) := ⟨m.toNat, by omega⟩
 refine cutP [] [(1, .ptr 3 0), (2, .ptr 4 0), (3, .snil), (4, .snil), (5, .slice 5 1 0 N N), (6, .fn (.func 94) [] [.ptr 3 0]), (19, .int .i64 M), (20, .int .i64 0)] (fun _ => HM0 b n cap by' (c + 1 + 1) N N fun _ => 0) ?_ ?_
 ·refine ent_tau [0, 1, 2, 3, 4, 5] ⟨by (repeat' first|exact fp|refine aN ?_ ?_), ?_, rfl⟩
  (repeat' first|exact tm|refine aN ?_ ?_)
  all_goals exact congrArg (SV.int .i64) eM
 refine loopP E_ok [1, 2, 5, 6, 19] (fun g : Nat × Int × TK × Tru × (Nat → Int) × Nat × Nat => [(3, match g.1 with | 0 => .snil | k + 1 => .slice 7 1 0 (k + 1) g.2.2.2.2.2.1), (4, match g.1 with | 0 => .snil | k + 1 => .slice 8 1 0 (k + 1) g.2.2.2.2.2.2), (20, .int .i64 g.1)])
  (fun g _ => match g.1 with | 0 => HM0 b n cap by' g.2.1 N N g.2.2.2.2.1 | k + 1 => HM1 b n cap by' g.2.1 N N g.2.2.2.2.1 (k + 1) g.2.2.1 g.2.2.2.1 g.2.2.2.2.2.1 g.2.2.2.2.2.2)
  (fun g => g.1 ≤ M ∧ (0 ≤ g.2.1 ∧ g.2.1 ≤ 300002 + 100 * g.1) ∧ g.2.2.1.n = g.1 ∧ g.2.2.1.huts = N ∧ Mk g.2.2.1 g.2.2.2.1 g.2.2.2.2.1 ∧ (0 < g.1 → (g.1 ≤ g.2.2.1.cap ∧ g.2.2.1.cap ≤ 9223372036854775807) ∧ (g.1 ≤ g.2.2.2.2.2.1 ∧ g.2.2.2.2.2.1 ≤ 9223372036854775807) ∧ g.1 ≤ g.2.2.2.2.2.2 ∧ g.2.2.2.2.2.2 ≤ 9223372036854775807)) (fun g => M - g.1)
  (0, c + 1 + 1, { huts := N, n := 0, bl := fun _ => 0, bh := fun _ => 0, hut := fun _ => 0, dl := fun _ => 0, dh := fun _ => 0, b := false, cap := 0 }, fun _ => (0, 0), fun _ => 0, 0, 0) ⟨Nat.zero_le _, ⟨by simp only; omega, by simp only; omega⟩, rfl, rfl, Mk.zero ⟨by simp only; omega, by simp only; omega⟩ rfl, fun h => absurd h (Nat.lt_irrefl 0)⟩ ?_ ?_
 ·exact ent_tau [0, 1, 2, 3, 4, 5] ⟨by (repeat' first|exact fp|refine aN ?_ ?_), by (repeat' first|exact tm|refine aN ?_ ?_), rfl⟩
 rintro ⟨k, c2, t, x, fr, cb, cd⟩ ⟨hk, hc2, hn2, hu, S, hcap⟩
 simp only at hk hc2 hn2 hu S hcap
 have hM5 : M ≤ 5 := by omega
 cases k with
 | zero =>
  refine And.intro ?_ (And.intro (fun hcc => ?_) (fun hcc => ?_))
  ·(repeat' first|exact aq|refine aN ?_ ?_|exact trivial)
  ·have hkN : 0 < M := by
    have := of_decide_eq_true hcc
    omega
   (repeat' first|exact aq|refine aN ?_ ?_|exact trivial)
   all_goals first | exact dd | skip
   refine CallP.frameH (t93 b n cap by' hby hn c2 (by omega) N (by omega)) [0, 1, 2] (by (repeat' first|exact fp|refine aN ?_ ?_)) rfl ?_
   rintro ce h' ⟨q, hq0, hq1, rfl, rfl⟩
   refine ⟨rfl, ?_⟩
   have hfr := S.rg (0 + q.toNat)
   (repeat' first|exact aq|refine aN ?_ ?_|exact trivial)
   all_goals first | exact dd | skip
   all_goals first | exact dp | skip
   refine drawP E_ok [3, 5] pl35_7 (by kernel_rfl) ?_
   (repeat' first|exact aq|refine aN ?_ ?_|exact trivial)
   all_goals first | exact dd | skip
   all_goals first | exact dp | skip
   refine CallP.frameH (t93 b n cap by' hby hn (c2 + 1) (by omega) 8 (by decide)) [0, 1, 2] (by (repeat' first|exact fp|refine aN ?_ ?_)) rfl ?_
   rintro ce h' ⟨d, hd0, hd1, rfl, rfl⟩
   refine ⟨rfl, ?_⟩
   (repeat' first|exact aq|refine aN ?_ ?_|exact trivial)
   all_goals first | exact dd | skip
   all_goals first | exact dp | skip
   refine CallP.frameH (t93 b n cap by' hby hn (c2 + 1 + 1) (by omega) 40 (by decide)) [0, 1, 2] (by (repeat' first|exact fp|refine aN ?_ ?_)) rfl ?_
   rintro ce h' ⟨e, he0, he1, rfl, rfl⟩
   refine ⟨rfl, ?_⟩
   (repeat' first|exact aq|refine aN ?_ ?_|exact trivial)
   all_goals first | exact dd | skip
   all_goals first | exact dp | skip
   refine CallP.frameH (t93 b n cap by' hby hn (c2 + 1 + 1 + 1) (by omega) 3 (by decide)) [0, 1, 2] (by (repeat' first|exact fp|refine aN ?_ ?_)) rfl ?_
   rintro ce h' ⟨f, hf0, hf1, rfl, rfl⟩
   refine ⟨rfl, ?_⟩
   (repeat' first|exact aq|refine aN ?_ ?_|exact trivial)
   all_goals first | exact dd | skip
   all_goals first | exact dp | skip
   obtain ⟨B, eB⟩ : ∃ B : Int, fr (0 + q.toNat) + d = B := ⟨_, rfl⟩
   obtain ⟨A, eA⟩ : ∃ A : Int, (if fr (0 + q.toNat) + d - e > 0 then fr (0 + q.toNat) + d - e else 0) = A := ⟨_, rfl⟩
   have hA : 0 ≤ A ∧ A ≤ B := by
    rw [← eA, ← eB]
    split <;> omega
   refine cutP [1, 2, 3, 4, 5, 6, 19, 20] [(7, .int .i64 q), (8, .int .i64 B), (9, .int .i64 A)] (fun _ => HM0 b n cap by' (c2 + 1 + 1 + 1 + 1) N N (updI fr q.toNat (B + 30 + f))) ?_ ?_
   ·refine ent_tau [0, 1, 2, 3, 4, 5] ⟨?_, ?_, rfl⟩
    ·(repeat' first|exact fp|refine aN ?_ ?_)
     exact row_fr (by rw [← eB])
    ·(repeat' first|exact tm|refine aN ?_ ?_)
     all_goals first | exact congrArg (SV.int .i64) eB | exact congrArg (SV.int .i64) eA
   refine drawP E_ok [] pl35_10s (by kernel_rfl) ?_
   (repeat' first|exact aq|refine aN ?_ ?_|exact trivial)
   all_goals refine CallP.frameH (t94 b n cap by' hby hn (c2 + 1 + 1 + 1 + 1) (by omega) A (by omega)) [0, 1, 2, 3] (by (repeat' first|exact fp|refine aN ?_ ?_)) rfl ?_
   all_goals rintro ce h' ⟨lo, hi, hlo, rfl, rfl⟩
   all_goals refine ⟨rfl, ?_⟩
   all_goals (repeat' first|exact aq|refine aN ?_ ?_|exact trivial)
   all_goals refine CallP.frameH (t94 b n cap by' hby hn (c2 + 1 + 1 + 1 + 1 + 2) (by omega) B (by omega)) [0, 1, 2, 3] (by (repeat' first|exact fp|refine aN ?_ ?_)) rfl ?_
   all_goals rintro ce h' ⟨lo2, hi2, hlo2, rfl, rfl⟩
   all_goals refine ⟨rfl, ?_⟩
   all_goals (repeat' first|exact aq|refine aN ?_ ?_|exact trivial)
   all_goals first | (intro c5 h51 h52) | first | decide | (show _ * 40 ≤ 140737488355328; omega) | (show _ * 8 ≤ 140737488355328; omega) | exact one1 rfl | exact (fun k _ => rfl) | exact Nat.le_refl _ | omega
   all_goals (repeat' first|exact aq|refine aN ?_ ?_|exact trivial)
   all_goals first | (intro c6 h61 h62) | first | decide | (show _ * 40 ≤ 140737488355328; omega) | (show _ * 8 ≤ 140737488355328; omega) | exact one1 rfl | exact (fun k _ => rfl) | exact Nat.le_refl _ | omega
   all_goals (repeat' first|exact aq|refine aN ?_ ?_|exact trivial)
   all_goals first | (intro c7 h71 h72) | first | decide | (show _ * 40 ≤ 140737488355328; omega) | (show _ * 8 ≤ 140737488355328; omega) | exact one1 rfl | exact (fun k _ => rfl) | exact Nat.le_refl _ | omega
   all_goals (repeat' first|exact aq|refine aN ?_ ?_|exact trivial)
   all_goals all_goals first | exact dd | skip
   all_goals refine ⟨(0 + 1, c2 + 1 + 1 + 1 + 1 + 2 + 2, { pushT t q lo hi lo2 hi2 with b := true, cap := c5 }, TK.updT x t.n (A, B), updI fr q.toNat (B + 30 + f), c6, c7), ⟨hkN, ⟨by simp only; omega, by simp only; omega⟩, congrArg (· + 1) hn2, hu, (S.push (by omega) ⟨hq0, by omega⟩ (d := d) (a := A) (e := f) (lo := lo) (hi := hi) (lo2 := lo2) (hi2 := hi2) (b := B) ⟨hd0, by omega⟩ (by rw [← eB, Nat.zero_add]) (by omega) ⟨hf0, by omega⟩ hlo hlo2).bc true c5, fun _ => ⟨⟨h51, h52⟩, ⟨h61, h62⟩, h71, h72⟩⟩, by simp only; omega, ?_⟩
   all_goals refine ent_tau [0, 1, 2, 3, 4, 5, 7, 9, 11] ⟨?_, by (repeat' first|exact tm|refine aN ?_ ?_), rfl⟩
   all_goals (repeat' first|exact fp|refine aN ?_ ?_)
   all_goals first | exact row_t0 hn2 | exact row_b0 hn2 | exact row_d0 hn2 | skip
  ·(repeat' first|exact aq|refine aN ?_ ?_|exact trivial)
   refine codeP_XK E_ok 10 ?_
   (repeat' first|exact aq|refine aN ?_ ?_|exact trivial)
   refine ⟨.ret (.tup [.agg [.int .i64 t.huts, .osl false 3 5 0 0], .osl false 4 1 0 0, .osl false 5 1 0 0]), HDr b n cap by' c2, ⟨{ t with b := false, cap := 0 }, x, fr, 0, 0, c2, S.bc false 0, ⟨by omega, by omega⟩, .inl ⟨hn2, rfl, rfl, rfl, rfl⟩⟩, ?_⟩
   rw [hu]
   refine Ent.trans (t := ⟨[some (none, .tup [.agg [.int .i64 N, .snil], .snil, .snil])], HDr b n cap by' c2, []⟩) ?_ (entV fun η => by simp [den, denL])
   exact ent_tau [0, 1, 2] ⟨by (repeat' first|exact fp|refine aN ?_ ?_), by (repeat' first|exact tm|refine aN ?_ ?_), rfl⟩
 | succ k =>
  refine And.intro ?_ (And.intro (fun hcc => ?_) (fun hcc => ?_))
  ·(repeat' first|exact aq|refine aN ?_ ?_|exact trivial)
  ·have hkN : (k + 1) < M := by
    have := of_decide_eq_true hcc
    omega
   obtain ⟨⟨q1, q2⟩, ⟨q3, q4⟩, q5, q6⟩ := hcap (Nat.succ_pos k)
   (repeat' first|exact aq|refine aN ?_ ?_|exact trivial)
   all_goals first | exact dd | skip
   refine CallP.frameH (t93 b n cap by' hby hn c2 (by omega) N (by omega)) [0, 1, 2] (by (repeat' first|exact fp|refine aN ?_ ?_)) rfl ?_
   rintro ce h' ⟨q, hq0, hq1, rfl, rfl⟩
   refine ⟨rfl, ?_⟩
   have hfr := S.rg (0 + q.toNat)
   (repeat' first|exact aq|refine aN ?_ ?_|exact trivial)
   all_goals first | exact dd | skip
   all_goals first | exact dp | skip
   refine drawP E_ok [3, 5] pl35_7 (by kernel_rfl) ?_
   (repeat' first|exact aq|refine aN ?_ ?_|exact trivial)
   all_goals first | exact dd | skip
   all_goals first | exact dp | skip
   refine CallP.frameH (t93 b n cap by' hby hn (c2 + 1) (by omega) 8 (by decide)) [0, 1, 2] (by (repeat' first|exact fp|refine aN ?_ ?_)) rfl ?_
   rintro ce h' ⟨d, hd0, hd1, rfl, rfl⟩
   refine ⟨rfl, ?_⟩
   (repeat' first|exact aq|refine aN ?_ ?_|exact trivial)
   all_goals first | exact dd | skip
   all_goals first | exact dp | skip
   refine CallP.frameH (t93 b n cap by' hby hn (c2 + 1 + 1) (by omega) 40 (by decide)) [0, 1, 2] (by (repeat' first|exact fp|refine aN ?_ ?_)) rfl ?_
   rintro ce h' ⟨e, he0, he1, rfl, rfl⟩
   refine ⟨rfl, ?_⟩
   (repeat' first|exact aq|refine aN ?_ ?_|exact trivial)
   all_goals first | exact dd | skip
   all_goals first | exact dp | skip
   refine CallP.frameH (t93 b n cap by' hby hn (c2 + 1 + 1 + 1) (by omega) 3 (by decide)) [0, 1, 2] (by (repeat' first|exact fp|refine aN ?_ ?_)) rfl ?_
   rintro ce h' ⟨f, hf0, hf1, rfl, rfl⟩
   refine ⟨rfl, ?_⟩
   (repeat' first|exact aq|refine aN ?_ ?_|exact trivial)
   all_goals first | exact dd | skip
   all_goals first | exact dp | skip
   obtain ⟨B, eB⟩ : ∃ B : Int, fr (0 + q.toNat) + d = B := ⟨_, rfl⟩
   obtain ⟨A, eA⟩ : ∃ A : Int, (if fr (0 + q.toNat) + d - e > 0 then fr (0 + q.toNat) + d - e else 0) = A := ⟨_, rfl⟩
   have hA : 0 ≤ A ∧ A ≤ B := by
    rw [← eA, ← eB]
    split <;> omega
   refine cutP [1, 2, 3, 4, 5, 6, 19, 20] [(7, .int .i64 q), (8, .int .i64 B), (9, .int .i64 A)] (fun _ => HM1 b n cap by' (c2 + 1 + 1 + 1 + 1) N N (updI fr q.toNat (B + 30 + f)) (k + 1) t x cb cd) ?_ ?_
   ·refine ent_tau [0, 1, 2, 3, 4, 5, 6, 7, 8] ⟨?_, ?_, rfl⟩
    ·(repeat' first|exact fp|refine aN ?_ ?_)
     exact row_fr (by rw [← eB])
    ·(repeat' first|exact tm|refine aN ?_ ?_)
     all_goals first | exact congrArg (SV.int .i64) eB | exact congrArg (SV.int .i64) eA
   refine drawP E_ok [] pl35_10s (by kernel_rfl) ?_
   (repeat' first|exact aq|refine aN ?_ ?_|exact trivial)
   all_goals refine CallP.frameH (t94 b n cap by' hby hn (c2 + 1 + 1 + 1 + 1) (by omega) A (by omega)) [0, 1, 2, 3] (by (repeat' first|exact fp|refine aN ?_ ?_)) rfl ?_
   all_goals rintro ce h' ⟨lo, hi, hlo, rfl, rfl⟩
   all_goals refine ⟨rfl, ?_⟩
   all_goals (repeat' first|exact aq|refine aN ?_ ?_|exact trivial)
   all_goals refine CallP.frameH (t94 b n cap by' hby hn (c2 + 1 + 1 + 1 + 1 + 2) (by omega) B (by omega)) [0, 1, 2, 3] (by (repeat' first|exact fp|refine aN ?_ ?_)) rfl ?_
   all_goals rintro ce h' ⟨lo2, hi2, hlo2, rfl, rfl⟩
   all_goals refine ⟨rfl, ?_⟩
   all_goals (repeat' first|exact aq|refine aN ?_ ?_|exact trivial)
   all_goals first | (intro c5 h51 h52) | first | decide | (show _ * 40 ≤ 140737488355328; omega) | (show _ * 8 ≤ 140737488355328; omega) | exact one1 rfl | exact (fun k _ => rfl) | exact Nat.le_refl _ | omega
   all_goals (repeat' first|exact aq|refine aN ?_ ?_|exact trivial)
   all_goals first | (intro c6 h61 h62) | first | decide | (show _ * 40 ≤ 140737488355328; omega) | (show _ * 8 ≤ 140737488355328; omega) | exact one1 rfl | exact (fun k _ => rfl) | exact Nat.le_refl _ | omega
   all_goals (repeat' first|exact aq|refine aN ?_ ?_|exact trivial)
   all_goals first | (intro c7 h71 h72) | first | decide | (show _ * 40 ≤ 140737488355328; omega) | (show _ * 8 ≤ 140737488355328; omega) | exact one1 rfl | exact (fun k _ => rfl) | exact Nat.le_refl _ | omega
   all_goals (repeat' first|exact aq|refine aN ?_ ?_|exact trivial)
   all_goals all_goals first | exact dd | skip
   all_goals refine ⟨((k + 1) + 1, c2 + 1 + 1 + 1 + 1 + 2 + 2, { pushT t q lo hi lo2 hi2 with b := true, cap := c5 }, TK.updT x t.n (A, B), updI fr q.toNat (B + 30 + f), c6, c7), ⟨hkN, ⟨by simp only; omega, by simp only; omega⟩, congrArg (· + 1) hn2, hu, (S.push (by omega) ⟨hq0, by omega⟩ (d := d) (a := A) (e := f) (lo := lo) (hi := hi) (lo2 := lo2) (hi2 := hi2) (b := B) ⟨hd0, by omega⟩ (by rw [← eB, Nat.zero_add]) (by omega) ⟨hf0, by omega⟩ hlo hlo2).bc true c5, fun _ => ⟨⟨h51, h52⟩, ⟨h61, h62⟩, h71, h72⟩⟩, by simp only; omega, ?_⟩
   all_goals refine ent_tau [0, 1, 2, 3, 4, 5, 10, 12, 14] ⟨?_, by (repeat' first|exact tm|refine aN ?_ ?_), rfl⟩
   all_goals (repeat' first|exact fp|refine aN ?_ ?_)
   all_goals first | exact row_t1 hn2 | exact row_b1 hn2 | exact row_d1 hn2 | skip
  ·obtain ⟨⟨q1, q2⟩, ⟨q3, q4⟩, q5, q6⟩ := hcap (Nat.succ_pos k)
   (repeat' first|exact aq|refine aN ?_ ?_|exact trivial)
   refine codeP_XK E_ok 10 ?_
   (repeat' first|exact aq|refine aN ?_ ?_|exact trivial)
   refine ⟨.ret (.tup [.agg [.int .i64 t.huts, .osl true 3 5 t.n t.cap], .osl true 4 1 t.n cb, .osl true 5 1 t.n cd]), HDr b n cap by' c2 ++ [some (.arr 5 t.n t.cap (TF t)), some (.arr 1 t.n cb (rI (bouF x))), some (.arr 1 t.n cd (rI (dooF x)))], ⟨{ t with b := true, cap := t.cap }, x, fr, cb, cd, c2, S.bc true t.cap, ⟨by omega, by omega⟩, .inr ⟨by show 0 < t.n; omega, rfl, ⟨by show t.n ≤ t.cap; omega, q2⟩, ⟨by show t.n ≤ cb; omega, q4⟩, ⟨by show t.n ≤ cd; omega, q6⟩, rfl, rfl⟩⟩, ?_⟩
   rw [hu, hn2]
   refine Ent.trans (t := ⟨[some (none, .tup [.agg [.int .i64 N, .slice 3 5 0 (k + 1) t.cap], .slice 4 1 0 (k + 1) cb, .slice 5 1 0 (k + 1) cd])], HDr b n cap by' c2 ++ [some (.arr 5 (k + 1) t.cap (TF t)), some (.arr 1 (k + 1) cb (rI (bouF x))), some (.arr 1 (k + 1) cd (rI (dooF x)))], []⟩) ?_ (entV fun η => by simp [den, denL])
   exact ent_tau [0, 1, 2, 6, 7, 8] ⟨by (repeat' first|exact fp|refine aN ?_ ?_), by (repeat' first|exact tm|refine aN ?_ ?_), rfl⟩
end Go.Proofs.Ytioajogaghgipaa
/-
 TicketTrue: what is drawn from, and what is known of a truth.
-/
namespace Go.Proofs.Ytioajogaghgipaa
open Go Go.Sy Tic
set_option linter.unusedSimpArgs false
set_option maxRecDepth 100000
set_option maxHeartbeats 4000000
attribute [local irreducible] CallP CodeP Ent YieldP
set_option maxHeartbeats 16000000
-- fast: YtioajogaghgipaaDd

theorem t34 (b : Bool) (n cap : Nat) (by' : Nat → Int) : CallP Try.prog 34 [.osl b 0 1 n cap] [some (.roa 1 n fun k => [.int .u16 (by' k)])] (Ret (.fn (.func 93) [] [.ptr 2 0, .ptr 1 0]) [some (.roa 1 n fun k => [.int .u16 (by' k)]), some (.cells [.osl b 0 1 n cap]), some (.cells [.int .i64 0])]) := by
 refine callR (E := E) E_ok Try.func34 rfl ?_
 (repeat' first|exact aq|refine aN ?_ ?_|exact trivial)
 exact ent_tau [0, 1, 2] ⟨by (repeat' first|exact fp|refine aN ?_ ?_), by (repeat' first|exact tm|refine aN ?_ ?_), rfl⟩
structure BT (t : TK) (x : Tru) (fr : Nat → Int) (n : Nat) (by' : Nat → Int) : Prop where
 m : Mk t x fr
 hby : ∀ k, 0 ≤ by' k ∧ by' k ≤ 65535
 hn : n ≤ 9223372036854775807
theorem BT.valid {t : TK} {x : Tru} {fr : Nat → Int} {n : Nat} {by' : Nat → Int} (B : BT t x fr n by') : t.Valid := B.m.valid
theorem BT.mem {t : TK} {x : Tru} {fr : Nat → Int} {n : Nat} {by' : Nat → Int} (B : BT t x fr n by') : x ∈ t.trs := B.m.mem
theorem BT.ne {t : TK} {x : Tru} {fr : Nat → Int} {n : Nat} {by' : Nat → Int} (B : BT t x fr n by') : t.trs ≠ [] := List.ne_nil_of_mem B.mem
theorem BT.day {t : TK} {x : Tru} {fr : Nat → Int} {n : Nat} {by' : Nat → Int} (B : BT t x fr n by') {i : Nat} (hi : i < t.n) : (0 ≤ (x i).1 ∧ (x i).1 ≤ (x i).2) ∧ 0 ≤ (x i).2 ∧ (x i).2 ≤ 240 := by
 have h := B.m.ok i hi
 unfold TK.okT spanOk TK.okP at h
 omega
theorem BT.hut {t : TK} {x : Tru} {fr : Nat → Int} {n : Nat} {by' : Nat → Int} (B : BT t x fr n by') {i : Nat} (hi : i < t.n) : 0 ≤ t.hut i ∧ t.hut i ≤ 3 := by
 have h := (B.m.ok i hi).1.1
 have := B.m.hu
 omega
noncomputable def H6 (b : Bool) (n cap : Nat) (by' : Nat → Int) (c : Int) (t : TK) (x : Tru) : SHeap := [some (.roa 1 n fun k => [.int .u16 (by' k)]), some (.cells [.osl b 0 1 n cap]), some (.cells [.int .i64 c]), some (.roa 5 t.n (TF t)), some (.roa 1 t.n (rI (bouF x))), some (.roa 1 t.n (rI (dooF x))), some (.cells [.int .i64 t.huts, .osl t.b 3 5 t.n t.cap])]
def H60 (n : Nat) (by' : Nat → Int) : SHeap := [some (.roa 1 n fun k => [.int .u16 (by' k)])]
end Go.Proofs.Ytioajogaghgipaa
/-
 TicketTrue, its last part: a hut at a minute.
-/
namespace Go.Proofs.Ytioajogaghgipaa
open Go Go.Sy Tic
set_option linter.unusedSimpArgs false
set_option maxRecDepth 100000
set_option maxHeartbeats 4000000
attribute [local irreducible] CallP CodeP Ent YieldP
set_option maxHeartbeats 16000000
-- fast: YtioajogaghgipaaDd

def T6b (t : TK) (cd : Nat) (m hut : Int) (W : Nat) (nb : Bool) (w fv : Int) : Tm := mkT [] [(2, .bool false), (4, .ptr 6 0), (6, .osl t.b 5 1 t.n cd), (32, .int .i64 m), (33, .int .i64 W), (34, .bool nb), (35, .int .i64 0), (36, .int .i64 w), (38, .int .i64 hut), (39, .int .i64 fv), (40, .int .i64 0)] 0 (List.replicate 455 none)
def usB (t : TK) (x : Tru) (h m : Int) (k : Nat) : Bool := anyB (fun i => decide (t.hut i = h) && inI (m - (x i).2) 0 29) k
theorem seg6b (b : Bool) (n cap : Nat) (by' : Nat → Int) (c : Int) (t : TK) (x : Tru) (fr : Nat → Int) (B : BT t x fr n by') (cd : Nat) (m hut : Int) (hm : 0 ≤ m ∧ m ≤ 240) (hh : 0 ≤ hut ∧ hut ≤ t.huts - 1)
  (W : Nat) (nb : Bool) (w fv : Int) (hW : W < 32) (hw : (w < 0 ∧ nb = true) ∨ ∃ q : Nat, w = (q : Int) ∧ q < 5 ∧ W.testBit q = true) (hf : (fv = 2 → usB t x hut m t.n = false) ∧ (fv = 0 → usB t x hut m t.n = true)) :
  CodeP Try.prog none 1 (sufC Try.f6 18) ⟨T6b t cd m hut W nb w fv, H6 b n cap by' c t x, []⟩ (KRet E Try.f6 1 (.bool true) (H60 n by')) := by
 have hn5 := B.m.n5
 have hu := B.m.hu
 refine codeP_XK E_ok 50 ?_
 (repeat' first|exact aq|refine aN ?_ ?_|exact trivial)
 refine loopP E_ok [2, 4, 6, 32, 33, 34, 35, 36, 38, 39, 40, 381, 382] (fun k : Nat => [(41, .bool (usB t x hut m k)), (383, .int .i64 k)]) (fun _ _ => H6 b n cap by' c t x) (fun k => k ≤ t.n) (fun k => t.n - k) 0 (Nat.zero_le _) ?_ ?_
 ·exact ent_tau [0, 1, 2, 3, 4, 5, 6] ⟨by (repeat' first|exact fp|refine aN ?_ ?_), by (repeat' first|exact tm|refine aN ?_ ?_), rfl⟩
 rintro k hk
 have ek := z1 k
 refine And.intro ?_ (And.intro (fun hc => ?_) (fun hc => ?_))
 ·(repeat' first|exact aq|refine aN ?_ ?_|exact trivial)
 ·have hk' : k < t.n := by
   have := of_decide_eq_true hc
   omega
  have hd := B.day hk'
  have eh : t.hut (0 + ((k : Nat) : Int).toNat) = t.hut k := by rw [ek]
  have ed : dooF x (0 + ((k : Nat) : Int).toNat) = (x k).2 := by rw [ek]; rfl
  have hdd : 0 ≤ dooF x (0 + ((k : Nat) : Int).toNat) ∧ dooF x (0 + ((k : Nat) : Int).toNat) ≤ 240 := by rw [ed]; omega
  (repeat' first|exact aq|refine aN ?_ ?_|exact trivial)
  all_goals first | exact dd | skip
  refine ⟨k + 1, hk', by omega, ?_⟩
  refine ent_tau [0, 1, 2, 3, 4, 5, 6] ⟨by (repeat' first|exact fp|refine aN ?_ ?_), ?_, rfl⟩
  (repeat' first|exact tm|refine aN ?_ ?_)
  refine congrArg SV.bool ?_
  rw [eh, ed]
  show _ = (usB t x hut m k || (decide (t.hut k = hut) && inI (m - (x k).2) 0 29))
  have e1 : inI (m - (x k).2) 0 29 = (decide ((x k).2 ≤ m) && decide (m < (x k).2 + 30)) := by
   unfold inI
   rw [Bool.eq_iff_iff]
   simp only [Bool.and_eq_true, decide_eq_true_eq]
   omega
  rw [e1]
  cases usB t x hut m k <;> cases decide (t.hut k = hut) <;> cases decide ((x k).2 ≤ m) <;> rfl
 ·obtain rfl : k = t.n := by
   have := of_decide_eq_false hc
   omega
  obtain ⟨u, hU⟩ : ∃ u, usB t x hut m t.n = u := ⟨_, rfl⟩
  rw [hU] at hf
  have hf2 : (bif !decide (fv = 2) then true else !u) = true := by
   by_cases e : fv = 2
   ·rw [hf.1 e]; cases decide (fv = 2) <;> rfl
   ·rw [decide_eq_false e]; rfl
  have hf0 : (bif !decide (fv = 0) then true else u) = true := by
   by_cases e : fv = 0
   ·rw [hf.2 e]; cases decide (fv = 0) <;> rfl
   ·rw [decide_eq_false e]; rfl
  rcases hw with ⟨h1, rfl⟩ | ⟨q, rfl, hq5, hq⟩
  ·have d1 : decide (w < 0) = true := decide_eq_true h1
   have d2 : decide (w ≥ 0) = false := decide_eq_false (by omega)
   (repeat' first|exact aq|refine aN ?_ ?_|exact trivial)
   all_goals first | exact dd | skip
   all_goals first | ((with_reducible show under _ _); simp [under, gB, wB, d1, d2]; done) | skip
   all_goals intro hy
   all_goals first | (exfalso; revert hy; simp only [gB, wB]; rw [hU, hf2, hf0, d1]; exact fun hz => Bool.noConfusion (show true = false from hz)) | skip
   refine t13.use [] ?_ trivial rfl
   (repeat' first|exact aq|refine aN ?_ ?_|exact trivial)
   refine ent_tau [0] ⟨by (repeat' first|exact fp|refine aN ?_ ?_), ⟨rfl, ?_, trivial⟩, rfl⟩
   refine congrArg SV.bool ?_
   rw [hU, hf2, hf0, d1]
   rfl
  ·have d1 : decide (((q : Nat) : Int) < 0) = false := decide_eq_false (by omega)
   have d2 : decide (((q : Nat) : Int) ≥ 0) = true := decide_eq_true (by omega)
   have d3 := has64 (S := W) (n := q) (by omega)
   rw [hq] at d3
   (repeat' first|exact aq|refine aN ?_ ?_|exact trivial)
   all_goals first | exact dd | skip
   all_goals first | ((with_reducible show under _ _); simp [under, gB, wB, d1, d2]; done) | ((with_reducible show under _ _); simp [under, gB, wB, d1, d2, IntKind.bits]; omega) | skip
   all_goals intro hy
   all_goals first | (exfalso; revert hy; simp only [gB, wB, Int.toNat_natCast]; rw [hU, hf2, hf0, d1, d2, d3]; exact fun hz => Bool.noConfusion (show true = false from hz)) | skip
   refine t13.use [] ?_ trivial rfl
   (repeat' first|exact aq|refine aN ?_ ?_|exact trivial)
   refine ent_tau [0] ⟨by (repeat' first|exact fp|refine aN ?_ ?_), ⟨rfl, ?_, trivial⟩, rfl⟩
   refine congrArg SV.bool ?_
   simp only [Int.toNat_natCast]
   rw [hU, hf2, hf0, d1, d2, d3]
   rfl
end Go.Proofs.Ytioajogaghgipaa
/-
 TicketTrue: whose turn it is at a minute.
-/
namespace Go.Proofs.Ytioajogaghgipaa
open Go Go.Sy Tic
set_option linter.unusedSimpArgs false
set_option maxRecDepth 100000
set_option maxHeartbeats 4000000
attribute [local irreducible] CallP CodeP Ent YieldP
set_option maxHeartbeats 16000000
-- fast: YtioajogaghgipaaDd

theorem t37 (s : Bool) (n cap : Nat) (x : Tru) (a b : Nat) (ha : a < n) (hb : b < n) : CallP Try.prog 37 [.osl s 0 1 n cap, .int .i64 a, .int .i64 b] [some (.roa 1 n (rI (bouF x)))] (Ret (.bool (before x a b)) [some (.roa 1 n (rI (bouF x)))]) := by
 have ea := z1 a
 have eb := z1 b
 have xa : bouF x (0 + ((a : Nat) : Int).toNat) = (x a).1 := by rw [ea]; rfl
 have xb : bouF x (0 + ((b : Nat) : Int).toNat) = (x b).1 := by rw [eb]; rfl
 refine callR (E := E) E_ok Try.func37 rfl ?_
 (repeat' first|exact aq|refine aN ?_ ?_|exact trivial)
 refine drawP E_ok [] pl37_1 (by kernel_rfl) ?_
 (repeat' first|exact aq|refine aN ?_ ?_|exact trivial)
 all_goals first | exact dd | skip
 refine ent_tau [0] ⟨by (repeat' first|exact fp|refine aN ?_ ?_), ⟨rfl, ?_, trivial⟩, rfl⟩
 refine congrArg SV.bool ?_
 have dn : decide ((a : Int) < (b : Int)) = decide (a < b) := by simp
 rw [xa, xb, dn]
 unfold before
 cases decide ((x a).1 < (x b).1) <;> cases decide ((x a).1 = (x b).1) <;> rfl
def T6c (t : TK) (cb cd : Nat) (m : Int) : Tm := mkT [] [(2, .bool false), (3, .fn (.func 93) [] [.ptr 2 0, .ptr 1 0]), (4, .ptr 6 0), (5, .osl t.b 4 1 t.n cb), (6, .osl t.b 5 1 t.n cd), (32, .int .i64 m)] 0 (List.replicate 455 none)
theorem tnow_no {x : Tru} {m : Int} {k : Nat} (h : inI m (x k).1 (x k).2 = false) : now x m (k + 1) = now x m k := by
 rw [now, h]
 rfl
theorem tnow_yes {x : Tru} {m : Int} {k : Nat} (h : inI m (x k).1 (x k).2 = true) (h2 : (decide (now x m k < 0) || before x k (now x m k).toNat) = true) : now x m (k + 1) = (k : Int) := by
 rw [now, h, h2]
 rfl
theorem tnow_old {x : Tru} {m : Int} {k : Nat} (h2 : (decide (now x m k < 0) || before x k (now x m k).toNat) = false) : now x m (k + 1) = now x m k := by
 rw [now, h2, Bool.and_false]
 rfl
theorem seg6c (b : Bool) (n cap : Nat) (by' : Nat → Int) (c : Int) (hc0 : 0 ≤ c ∧ c ≤ 950000) (t : TK) (x : Tru) (fr : Nat → Int) (B : BT t x fr n by') (cb cd : Nat) (m : Int) (hm : 0 ≤ m ∧ m ≤ 240) :
  CodeP Try.prog none 1 (sufC Try.f6 13) ⟨T6c t cb cd m, H6 b n cap by' c t x, []⟩ (KRet E Try.f6 1 (.bool true) (H60 n by')) := by
 have hv := B.valid
 have hn5 := B.m.n5
 have hu := B.m.hu
 have hI : InR .i64 t.huts := ⟨by omega, by omega⟩
 have c20 := t20 t (by omega) hI m
 rw [who_is hv B.ne m hm] at c20
 dsimp only at c20
 have hW : t.whose m < 32 := by
  have h1 : t.whose m < 2 ^ t.n := maskN_lt _ _
  have h2 : 2 ^ t.n ≤ 2 ^ 5 := Nat.pow_le_pow_right (by decide) hn5
  omega
 have hT := TK.true_now B.mem m
 refine codeP_XK E_ok 5 ?_
 (repeat' first|exact aq|refine aN ?_ ?_|exact trivial)
 refine c20.use [3] ?_ (by (repeat' first|exact fp|refine aN ?_ ?_)) rfl
 (repeat' first|exact aq|refine aN ?_ ?_|exact trivial)
 refine loopP E_ok [2, 3, 4, 5, 6, 32, 33, 34, 35, 338, 339] (fun k : Nat => [(36, .int .i64 (now x m k)), (340, .int .i64 k)]) (fun _ _ => H6 b n cap by' c t x) (fun k => k ≤ t.n) (fun k => t.n - k) 0 (Nat.zero_le _) ?_ ?_
 ·exact ent_tau [0, 1, 2, 3, 4, 5, 6] ⟨by (repeat' first|exact fp|refine aN ?_ ?_), by (repeat' first|exact tm|refine aN ?_ ?_), rfl⟩
 clear c20
 rintro k hk
 have ek := z1 k
 refine And.intro ?_ (And.intro (fun hc => ?_) (fun hc => ?_))
 ·(repeat' first|exact aq|refine aN ?_ ?_|exact trivial)
 ·have hk' : k < t.n := by
   have := of_decide_eq_true hc
   omega
  have hd := B.day hk'
  have eb : bouF x (0 + ((k : Nat) : Int).toNat) = (x k).1 := by rw [ek]; rfl
  have ed : dooF x (0 + ((k : Nat) : Int).toNat) = (x k).2 := by rw [ek]; rfl
  have rg := now_rng x m k
  have nx : inI m (x k).1 (x k).2 = (decide ((x k).1 ≤ m) && decide (m ≤ (x k).2)) := rfl
  by_cases h1 : (x k).1 ≤ m
  ·have d1 : decide (bouF x (0 + ((k : Nat) : Int).toNat) ≤ m) = true := decide_eq_true (by omega)
   by_cases h2 : m ≤ (x k).2
   ·have d2 : decide (m ≤ dooF x (0 + ((k : Nat) : Int).toNat)) = true := decide_eq_true (by omega)
    have hin : inI m (x k).1 (x k).2 = true := by rw [nx, decide_eq_true h1, decide_eq_true h2]; rfl
    by_cases h3 : now x m k < 0
    ·have d3 : decide (now x m k < 0) = true := decide_eq_true h3
     have st := tnow_yes hin (by rw [d3]; rfl)
     all_goals (repeat' first|exact aq|refine aN ?_ ?_|exact trivial)
     all_goals first | exact dd | skip
     all_goals intro hg
     all_goals first | (exfalso; (try rw [d1] at hg); (try rw [d2] at hg); (try rw [d3] at hg); exact Bool.noConfusion (show true = false from hg)) | (exfalso; (try rw [d1] at hg); (try rw [d2] at hg); (try rw [d3] at hg); exact Bool.noConfusion (show false = true from hg)) | skip
     all_goals (repeat' first|exact aq|refine aN ?_ ?_|exact trivial)
     all_goals first | exact dd | skip
     all_goals intro hz
     all_goals first | (exfalso; (try rw [d1] at hz); (try rw [d2] at hz); (try rw [d3] at hz); exact Bool.noConfusion (show true = false from hz)) | (exfalso; (try rw [d1] at hz); (try rw [d2] at hz); (try rw [d3] at hz); exact Bool.noConfusion (show false = true from hz)) | skip
     (repeat' first|exact aq|refine aN ?_ ?_|exact trivial)
     all_goals first | exact dd | skip
     all_goals first | ((with_reducible show under _ _); simp [under, gB, wB, d1, d2, d3]; done) | exact fun hh => Bool.noConfusion (show true = false from (d1.symm.trans hh)) | exact fun hh => Bool.noConfusion (show false = true from (d1.symm.trans hh)) | exact fun hh => Bool.noConfusion (show true = false from (d2.symm.trans hh)) | exact fun hh => Bool.noConfusion (show false = true from (d2.symm.trans hh)) | exact fun hh => Bool.noConfusion (show true = false from (d3.symm.trans hh)) | exact fun hh => Bool.noConfusion (show false = true from (d3.symm.trans hh)) | skip
     refine ⟨k + 1, hk', by omega, ?_⟩
     refine ent_tau [0, 1, 2, 3, 4, 5, 6] ⟨by (repeat' first|exact fp|refine aN ?_ ?_), ?_, rfl⟩
     (repeat' first|exact tm|refine aN ?_ ?_)
     exact congrArg (SV.int .i64) st.symm
    ·have d3 : decide (now x m k < 0) = false := decide_eq_false h3
     obtain ⟨q, hq⟩ : ∃ q : Nat, now x m k = (q : Int) := ⟨(now x m k).toNat, by omega⟩
     obtain ⟨v, hv2⟩ : ∃ v, before x k q = v := ⟨_, rfl⟩
     have c37 := t37 t.b t.n cb x k q hk' (by omega)
     rw [hv2, ← hq] at c37
     have e3 : (now x m k).toNat = q := by omega
     cases v with
     | true =>
      have st := tnow_yes hin (by rw [d3, e3, hv2]; rfl)
      all_goals (repeat' first|exact aq|refine aN ?_ ?_|exact trivial)
      all_goals first | exact dd | skip
      all_goals intro hg
      all_goals first | (exfalso; (try rw [d1] at hg); (try rw [d2] at hg); (try rw [d3] at hg); exact Bool.noConfusion (show true = false from hg)) | (exfalso; (try rw [d1] at hg); (try rw [d2] at hg); (try rw [d3] at hg); exact Bool.noConfusion (show false = true from hg)) | skip
      refine c37.use [4] ?_ (by (repeat' first|exact fp|refine aN ?_ ?_)) rfl
      all_goals (repeat' first|exact aq|refine aN ?_ ?_|exact trivial)
      all_goals first | exact dd | skip
      all_goals intro hz
      all_goals first | (exfalso; (try rw [d1] at hz); (try rw [d2] at hz); (try rw [d3] at hz); exact Bool.noConfusion (show true = false from hz)) | (exfalso; (try rw [d1] at hz); (try rw [d2] at hz); (try rw [d3] at hz); exact Bool.noConfusion (show false = true from hz)) | skip
      (repeat' first|exact aq|refine aN ?_ ?_|exact trivial)
      all_goals first | exact dd | skip
      all_goals first | ((with_reducible show under _ _); simp [under, gB, wB, d1, d2, d3]; done) | exact fun hh => Bool.noConfusion (show true = false from (d3.symm.trans hh)) | exact fun hh => Bool.noConfusion (show false = true from (d3.symm.trans hh)) | skip
      refine ⟨k + 1, hk', by omega, ?_⟩
      refine ent_tau [0, 1, 2, 3, 4, 5, 6] ⟨by (repeat' first|exact fp|refine aN ?_ ?_), ?_, rfl⟩
      (repeat' first|exact tm|refine aN ?_ ?_)
      exact congrArg (SV.int .i64) st.symm
     | false =>
      have st := tnow_old (x := x) (m := m) (k := k) (by rw [d3, e3, hv2]; rfl)
      all_goals (repeat' first|exact aq|refine aN ?_ ?_|exact trivial)
      all_goals first | exact dd | skip
      all_goals intro hg
      all_goals first | (exfalso; (try rw [d1] at hg); (try rw [d2] at hg); (try rw [d3] at hg); exact Bool.noConfusion (show true = false from hg)) | (exfalso; (try rw [d1] at hg); (try rw [d2] at hg); (try rw [d3] at hg); exact Bool.noConfusion (show false = true from hg)) | skip
      refine c37.use [4] ?_ (by (repeat' first|exact fp|refine aN ?_ ?_)) rfl
      all_goals (repeat' first|exact aq|refine aN ?_ ?_|exact trivial)
      all_goals first | exact dd | skip
      all_goals intro hz
      all_goals first | (exfalso; (try rw [d1] at hz); (try rw [d2] at hz); (try rw [d3] at hz); exact Bool.noConfusion (show true = false from hz)) | (exfalso; (try rw [d1] at hz); (try rw [d2] at hz); (try rw [d3] at hz); exact Bool.noConfusion (show false = true from hz)) | skip
      (repeat' first|exact aq|refine aN ?_ ?_|exact trivial)
      all_goals first | exact dd | skip
      all_goals first | ((with_reducible show under _ _); simp [under, gB, wB, d1, d2, d3]; done) | exact fun hh => Bool.noConfusion (show true = false from (d3.symm.trans hh)) | exact fun hh => Bool.noConfusion (show false = true from (d3.symm.trans hh)) | skip
      refine ⟨k + 1, hk', by omega, ?_⟩
      refine ent_tau [0, 1, 2, 3, 4, 5, 6] ⟨by (repeat' first|exact fp|refine aN ?_ ?_), ?_, rfl⟩
      (repeat' first|exact tm|refine aN ?_ ?_)
      exact congrArg (SV.int .i64) st.symm
   ·have d2 : decide (m ≤ dooF x (0 + ((k : Nat) : Int).toNat)) = false := decide_eq_false (by omega)
    have st : now x m (k + 1) = now x m k := tnow_no (by rw [nx, decide_eq_false h2, Bool.and_false])
    all_goals (repeat' first|exact aq|refine aN ?_ ?_|exact trivial)
    all_goals first | exact dd | skip
    all_goals intro hg
    all_goals first | (exfalso; (try rw [d1] at hg); (try rw [d2] at hg); exact Bool.noConfusion (show true = false from hg)) | (exfalso; (try rw [d1] at hg); (try rw [d2] at hg); exact Bool.noConfusion (show false = true from hg)) | skip
    all_goals (repeat' first|exact aq|refine aN ?_ ?_|exact trivial)
    all_goals first | exact dd | skip
    all_goals intro hz
    all_goals first | (exfalso; (try rw [d1] at hz); (try rw [d2] at hz); exact Bool.noConfusion (show true = false from hz)) | (exfalso; (try rw [d1] at hz); (try rw [d2] at hz); exact Bool.noConfusion (show false = true from hz)) | skip
    (repeat' first|exact aq|refine aN ?_ ?_|exact trivial)
    all_goals first | exact dd | skip
    all_goals first | ((with_reducible show under _ _); simp [under, gB, wB, d1, d2]; done) | exact fun hh => Bool.noConfusion (show true = false from (d1.symm.trans hh)) | exact fun hh => Bool.noConfusion (show false = true from (d1.symm.trans hh)) | exact fun hh => Bool.noConfusion (show true = false from (d2.symm.trans hh)) | exact fun hh => Bool.noConfusion (show false = true from (d2.symm.trans hh)) | skip
    refine ⟨k + 1, hk', by omega, ?_⟩
    refine ent_tau [0, 1, 2, 3, 4, 5, 6] ⟨by (repeat' first|exact fp|refine aN ?_ ?_), ?_, rfl⟩
    (repeat' first|exact tm|refine aN ?_ ?_)
    exact congrArg (SV.int .i64) st.symm
  ·have d1 : decide (bouF x (0 + ((k : Nat) : Int).toNat) ≤ m) = false := decide_eq_false (by omega)
   have st : now x m (k + 1) = now x m k := tnow_no (by rw [nx, decide_eq_false h1, Bool.false_and])
   all_goals (repeat' first|exact aq|refine aN ?_ ?_|exact trivial)
   all_goals first | exact dd | skip
   all_goals intro hg
   all_goals first | (exfalso; (try rw [d1] at hg); exact Bool.noConfusion (show true = false from hg)) | (exfalso; (try rw [d1] at hg); exact Bool.noConfusion (show false = true from hg)) | skip
   all_goals (repeat' first|exact aq|refine aN ?_ ?_|exact trivial)
   all_goals first | exact dd | skip
   all_goals intro hz
   all_goals first | (exfalso; (try rw [d1] at hz); exact Bool.noConfusion (show true = false from hz)) | (exfalso; (try rw [d1] at hz); exact Bool.noConfusion (show false = true from hz)) | skip
   (repeat' first|exact aq|refine aN ?_ ?_|exact trivial)
   all_goals first | exact dd | skip
   all_goals first | ((with_reducible show under _ _); simp [under, gB, wB, d1]; done) | exact fun hh => Bool.noConfusion (show true = false from (d1.symm.trans hh)) | exact fun hh => Bool.noConfusion (show false = true from (d1.symm.trans hh)) | skip
   refine ⟨k + 1, hk', by omega, ?_⟩
   refine ent_tau [0, 1, 2, 3, 4, 5, 6] ⟨by (repeat' first|exact fp|refine aN ?_ ?_), ?_, rfl⟩
   (repeat' first|exact tm|refine aN ?_ ?_)
   exact congrArg (SV.int .i64) st.symm
 ·obtain rfl : k = t.n := by
   have := of_decide_eq_false hc
   omega
  have hcs : 0 ≤ c := hc0.1
  (repeat' first|exact aq|refine aN ?_ ?_|exact trivial)
  refine CallP.frameH (t93 b n cap by' B.hby B.hn c (by omega) t.huts (by omega)) [2, 1, 0] (by (repeat' first|exact fp|refine aN ?_ ?_)) rfl ?_
  rintro ce h' ⟨hut, hh0, hh1, rfl, rfl⟩
  refine ⟨rfl, ?_⟩
  have c22 := t22 t (by omega) hI hut m
  rw [fre_is hv B.ne hut m ⟨hh0, by omega⟩ hm] at c22
  dsimp only at c22
  (repeat' first|exact aq|refine aN ?_ ?_|exact trivial)
  refine c22.use [3] ?_ (by (repeat' first|exact fp|refine aN ?_ ?_)) rfl
  (repeat' first|exact aq|refine aN ?_ ?_|exact trivial)
  obtain ⟨f1, f2⟩ := TK.true_free (t := t) B.mem (h := hut) (m := m)
  refine CodeP.part (seg6b b n cap by' (c + 1) t x fr B cd m hut hm ⟨hh0, by omega⟩ (t.whose m) (t.nobody m) (now x m t.n) (t.freeT hut m) hW ?_ ⟨fun e => f1 e, fun e => f2 e⟩) ?_
  ·rcases hT with ⟨a1, a2⟩ | ⟨a1, a2⟩
   ·exact .inl ⟨a1, a2⟩
   ·have rg := now_rng x m t.n
    exact .inr ⟨(now x m t.n).toNat, by omega, by omega, a2⟩
  ·exact ent_tau [0, 1, 2, 3, 4, 5, 6] ⟨by (repeat' first|exact fp|refine aN ?_ ?_), by (repeat' first|exact tm|refine aN ?_ ?_), rfl⟩
end Go.Proofs.Ytioajogaghgipaa
