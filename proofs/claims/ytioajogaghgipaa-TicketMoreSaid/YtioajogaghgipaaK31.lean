/-
  Parts: W6, W7.
-/
import Derived.Test.YtioajogaghgipaaK30
set_option linter.unusedVariables false
/-
  TicketMore: tickets in which huts are numbered otherwise, and tickets that are all so many minutes later.
-/
namespace Go.Proofs.Ytioajogaghgipaa
open Go Go.Sy Tic
set_option linter.unusedSimpArgs false
set_option maxRecDepth 100000
set_option maxHeartbeats 4000000
attribute [local irreducible] CallP CodeP Ent YieldP
set_option maxHeartbeats 16000000
-- fast: YtioajogaghgipaaDd
def YY (t : TK) (n c : Nat) : TK := { t.turned with n := n, b := true, cap := c }
def ZZ (t : TK) (d : Int) (n c : Nat) : TK := { t.later d with n := n, b := true, cap := c }
theorem bo_bc (t : TK) (b : Bool) (c i : Nat) : ({ t with b := b, cap := c } : TK).bought i = t.bought i := by
  unfold TK.bought
  rw [trs_bc]
theorem dr_bc (t : TK) (b : Bool) (c i : Nat) : ({ t with b := b, cap := c } : TK).door i = t.door i := by
  unfold TK.door
  rw [trs_bc]
theorem tu_bc (t : TK) (b : Bool) (c i : Nat) : ({ t with b := b, cap := c } : TK).turn i = t.turn i := by
  unfold TK.turn
  rw [trs_bc]
theorem su_bc (t : TK) (b : Bool) (c i : Nat) : ({ t with b := b, cap := c } : TK).surely i = t.surely i := by
  unfold TK.surely
  rw [trs_bc]
theorem pe_bc (t : TK) (b : Bool) (c i : Nat) : ({ t with b := b, cap := c } : TK).perhaps i = t.perhaps i := by
  unfold TK.perhaps
  rw [trs_bc]
theorem wa_bc (t : TK) (b : Bool) (c : Nat) : ({ t with b := b, cap := c } : TK).waits = t.waits := by
  unfold TK.waits
  rw [trs_bc]
theorem wr_bc (t : TK) (b : Bool) (c : Nat) : ({ t with b := b, cap := c } : TK).wrong = t.wrong := by
  unfold TK.wrong
  rw [trs_bc]
  rfl
theorem wh_bc (t : TK) (b : Bool) (c : Nat) (m : Int) : ({ t with b := b, cap := c } : TK).whose m = t.whose m := by
  unfold TK.whose
  rw [trs_bc]
theorem nb_bc (t : TK) (b : Bool) (c : Nat) (m : Int) : ({ t with b := b, cap := c } : TK).nobody m = t.nobody m := by
  unfold TK.nobody
  rw [trs_bc]
theorem fr_bc (t : TK) (b : Bool) (c : Nat) (h m : Int) : ({ t with b := b, cap := c } : TK).freeT h m = t.freeT h m := by
  unfold TK.freeT
  rw [trs_bc]
  rfl
theorem yy_valid {t : TK} (hv : t.Valid) {n c : Nat} (h : n = t.n) : (YY t n c).Valid := by
  subst h
  exact valid_bc true c (turned_valid hv)
theorem yy_nil {t : TK} {n c : Nat} (h : n = t.n) (h0 : t.trs = []) : (YY t n c).trs = [] := by
  subst h
  show ({ t.turned with b := true, cap := c } : TK).trs = []
  rw [trs_bc]
  exact (TK.Corr.nil (TK.corr_turned t)).2 h0
theorem yy_same {t : TK} {n c i : Nat} (h : n = t.n) (hne : t.trs ≠ []) (m : Int) : SameT t (YY t n c) i m := by
  subst h
  have hn : t.turned.trs ≠ [] := fun e => hne ((TK.Corr.nil (TK.corr_turned t)).1 e)
  have e : YY t t.n c = { t.turned with b := true, cap := c } := rfl
  rw [e]
  constructor
  · rw [trs_bc]; exact hn
  · rw [bo_bc]; exact TK.turned_bought t i
  · rw [dr_bc]; exact TK.turned_door t i
  · rw [tu_bc]; exact TK.turned_turn t i
  · rw [su_bc]; exact TK.turned_surely t i
  · rw [pe_bc]; exact TK.turned_perhaps t i
  · rw [wa_bc]; exact TK.turned_waits t
  · rw [wr_bc]; exact TK.turned_wrong t
  · rw [fr_bc]; exact TK.turned_free t (t.hut i) m
  · rw [wh_bc]; exact TK.turned_whose t m
  · rw [nb_bc]; exact TK.turned_nobody t m
theorem zz_valid {t : TK} (hv : t.Valid) {d : Int} (hd : 0 ≤ d) {n c : Nat} (h : n = t.n) (hf : fitN t d t.n = true) : (ZZ t d n c).Valid := by
  subst h
  exact valid_bc true c (later_valid hv hd hf)
theorem zz_nil {t : TK} {d : Int} {n c : Nat} (h : n = t.n) (h0 : t.trs = []) : (ZZ t d n c).trs = [] := by
  subst h
  show ({ t.later d with b := true, cap := c } : TK).trs = []
  rw [trs_bc]
  exact (TK.Corr.nil (TK.corr_later t d)).2 h0
theorem zz_late {t : TK} {d : Int} {n c i : Nat} (h : n = t.n) (hi : i < t.n) (hne : t.trs ≠ []) : LateT t (ZZ t d n c) i d := by
  subst h
  have hn : (t.later d).trs ≠ [] := fun e => hne ((TK.Corr.nil (TK.corr_later t d)).1 e)
  have e : ZZ t d t.n c = { t.later d with b := true, cap := c } := rfl
  rw [e]
  constructor
  · rw [trs_bc]; exact hn
  · rw [bo_bc]; exact TK.later_bought hne hi d
  · rw [dr_bc]; exact TK.later_door hne hi d
  · rw [tu_bc]; exact TK.later_turn hi d
  · rw [su_bc]; exact TK.later_surely hi d
  · rw [pe_bc]; exact TK.later_perhaps hi d
  · rw [wa_bc]; exact TK.later_waits t d
  · rw [wr_bc]; exact TK.later_wrong t d
theorem row_a0 {f : Nat → List SV} {a b c d e : SV} (h : [a, b, c, d, e] = f 0) : ∀ q, q < 0 + 1 → getOf 5 (splice (repL 1 [SV.int .i64 0, SV.int .i64 0, SV.int .i64 0, SV.int .i64 0, SV.int .i64 0]) (0 * 5) [a, b, c, d, e]) (0 + q) = f q := fun q hq => by
  obtain rfl : q = 0 := by omega
  rw [← h]
  rfl
theorem row_a {f : Nat → List SV} {k : Nat} {a b c d e : SV} (h : [a, b, c, d, e] = f (k + 1)) : ∀ q, q < k + 1 + 1 → selL (decide (q < k + 1)) (f q) (getOf 5 (splice (repL 1 [SV.int .i64 0, SV.int .i64 0, SV.int .i64 0, SV.int .i64 0, SV.int .i64 0]) (0 * 5) [a, b, c, d, e]) (0 + (q - (k + 1)))) = f q := fun q hq => by
  by_cases z : q < k + 1
  · rw [decide_eq_true z, selL_true]
  · obtain rfl : q = k + 1 := by omega
    rw [decide_eq_false z, selL_false, Nat.sub_self, ← h]
    rfl
theorem fit_step {t : TK} {d : Int} {k x : Nat} (e : x = k) : (bif fitN t d k then decide ((if t.dh x > t.bh x then t.dh x else t.bh x) + d ≤ 240) else false) = fitN t d (k + 1) := by
  subst e
  rfl
theorem turned_row {t : TK} {k x : Nat} (e : x = k) : [SV.int .i64 (t.bl x), SV.int .i64 (t.bh x), SV.int .i64 (t.huts - 1 - t.hut x), SV.int .i64 (t.dl x), SV.int .i64 (t.dh x)] = TF t.turned k := by
  subst e
  rfl
theorem later_row {t : TK} {d : Int} {k x : Nat} (e : x = k) : [SV.int .i64 (t.bl x + d), SV.int .i64 (t.bh x + d), SV.int .i64 (t.hut x), SV.int .i64 (t.dl x + d), SV.int .i64 (t.dh x + d)] = TF (t.later d) k := by
  subst e
  rfl
noncomputable def T11d (i : Nat) (m d : Int) : Tm := mkT [] [(4, .ptr 1 0), (9, .int .i64 i), (10, .int .i64 m), (11, .int .i64 d), (12, .ptr 2 0), (13, .ptr 3 0), (14, .ptr 4 0)] 0 (List.replicate 565 none)
def H11d (t x : TK) (d : Int) (k cy cz : Nat) : SHeap := match k with
  | 0 => TH t ++ [some (.cells (tb t)), some (.cells [.int .i64 x.huts, .slice 5 5 0 x.n x.cap]), some (.cells [.int .i64 t.huts, .snil]), some (.cells [.int .i64 t.huts, .snil]), some (.arr 5 x.n x.cap (TF x))]
  | k + 1 => TH t ++ [some (.cells (tb t)), some (.cells [.int .i64 x.huts, .slice 5 5 0 x.n x.cap]), some (.cells [.int .i64 t.huts, .slice 6 5 0 (k + 1) cy]), some (.cells [.int .i64 t.huts, .slice 7 5 0 (k + 1) cz]), some (.arr 5 x.n x.cap (TF x)), some (.arr 5 (k + 1) cy (TF t.turned)), some (.arr 5 (k + 1) cz (TF (t.later d)))]
def pl11_16s : Plan := .eager 0 <| .eager 2 <| .eager 3 <| .eager 4 <| .eager 5 <| .eager 6 <| .eager 7 <| .eager 8 <| .eager 9 <| .eager 10 <| .eager 11 <| .eager 12 <| .eager 13 <| .eager 14 <| .eager 15 <| .eager 16 <| .eager 17 <| .eager 18 <| .eager 19 <| .eager 20 <| .eager 21 <| .eager 22 <| .eager 23 <| .alt 1 (.alt 24 (.alt 25 (.alt 26 (.eager 27 <| .alt 28 (.done) .no) .no) .no) .no) (.alt 24 (.alt 1 (.alt 25 (.alt 26 (.eager 27 <| .alt 28 (.done) .no) .no) .no) (.alt 25 (.alt 1 (.alt 26 (.eager 27 <| .alt 28 (.done) .no) .no) .no) .no)) .no)
theorem seg11d (t : TK) (hv : t.Valid) (x : TK) (hxv : x.Valid) (hxb : x.b = true) (hxn : TK.Nar t x) (i : Nat) (hi : i < t.n) (hxi : i < x.n) (m d : Int) (hm : 0 ≤ m ∧ m ≤ 240) (hd : 0 ≤ d ∧ d ≤ 60) :
    CodeP Try.prog none 1 (sufC Try.f11 6) ⟨T11d i m d, H11d t x d 0 0 0, []⟩ (KRet E Try.f11 1 (.bool true) (TH t)) := by
  have hn := hv.2.1
  have h4 := hv.1
  have ok : ∀ k, k < t.n → (0 ≤ t.hut k ∧ t.hut k ≤ 3) ∧ (0 ≤ t.bl k ∧ t.bl k ≤ 240 ∧ 0 ≤ t.bh k ∧ t.bh k ≤ 240) ∧ 0 ≤ t.dl k ∧ t.dl k ≤ 240 ∧ 0 ≤ t.dh k ∧ t.dh k ≤ 240 := fun k hk => by
    have := hv.2.2 k hk
    unfold TK.okT spanOk at this
    omega
  refine codeP_XK E_ok 2 ?_
  (repeat' (first | exact aq | refine And.intro ?_ ?_ | exact trivial))
  all_goals first | exact dd | skip
  refine loopP E_ok [4, 9, 10, 11, 12, 13, 14, 137, 138] (fun g : Nat × Nat × Nat => [(17, .bool (fitN t d g.1)), (139, .int .i64 g.1)]) (fun g _ => H11d t x d g.1 g.2.1 g.2.2) (fun g => g.1 ≤ t.n ∧ (0 < g.1 → (g.1 ≤ g.2.1 ∧ g.2.1 ≤ 9223372036854775807) ∧ g.1 ≤ g.2.2 ∧ g.2.2 ≤ 9223372036854775807)) (fun g => t.n - g.1) (0, 0, 0) ⟨Nat.zero_le _, fun h => absurd h (Nat.lt_irrefl 0)⟩ ?_ ?_
  · exact ent_tau [0, 1, 2, 3, 4, 5] ⟨by (repeat' (first | exact fp | refine And.intro ?_ ?_)), by (repeat' (first | exact tm | refine And.intro ?_ ?_)), rfl⟩
  rintro ⟨k, cy, cz⟩ ⟨hk, hc⟩
  simp only at hk hc

  cases k with
  | zero =>
    refine And.intro ?_ (And.intro (fun hlt => ?_) (fun hlt => ?_))
    · (repeat' (first | exact aq | refine And.intro ?_ ?_ | exact trivial))
    · have hlt' : 0 < t.n := by
        have := of_decide_eq_true hlt
        simp only at this
        omega
      have ek := z1 (0)
      obtain ⟨o1, o2, o3⟩ := ok (0 + (((0 : Nat)) : Int).toNat) (by rw [ek]; exact hlt')
      have hmx : InR .i64 ((if t.dh (0 + (((0 : Nat)) : Int).toNat) > t.bh (0 + (((0 : Nat)) : Int).toNat) then t.dh (0 + (((0 : Nat)) : Int).toNat) else t.bh (0 + (((0 : Nat)) : Int).toNat)) + d) := by split <;> exact ⟨by omega, by omega⟩
      (repeat' (first | exact aq | refine And.intro ?_ ?_ | exact trivial))
      all_goals first | exact dd | skip
      all_goals first | ((with_reducible show allOneN _ _ _); exact one1 rfl) | (show 1 * 40 ≤ 140737488355328; decide) | ((with_reducible show (_ : Int) ≤ _); simp only; omega) | ((with_reducible show (_ : Int) < _); simp only; omega) | ((with_reducible show (_ : Nat) < _); simp only; omega) | ((with_reducible show (_ : Nat) ≤ _); simp only; omega) | skip
      intro c1 a1 a2
      (repeat' (first | exact aq | refine And.intro ?_ ?_ | exact trivial))
      all_goals first | exact dd | skip
      refine drawP E_ok [6] pl11_16s (by kernel_rfl) ?_
      (repeat' (first | exact aq | refine And.intro ?_ ?_ | exact trivial))
      all_goals first | exact dd | skip
      all_goals first | ((with_reducible show allOneN _ _ _); exact one1 rfl) | (show 1 * 40 ≤ 140737488355328; decide) | ((with_reducible show (_ : Int) ≤ _); simp only; omega) | ((with_reducible show (_ : Int) < _); simp only; omega) | ((with_reducible show (_ : Nat) < _); simp only; omega) | ((with_reducible show (_ : Nat) ≤ _); simp only; omega) | skip
      all_goals refine (t42 _ _ _ _ _).use [] ?_ (by (repeat' (first | exact fp | refine And.intro ?_ ?_))) rfl
      all_goals (repeat' (first | exact aq | refine And.intro ?_ ?_ | exact trivial))
      all_goals first | exact dd | skip
      all_goals first | ((with_reducible show allOneN _ _ _); exact one1 rfl) | (show 1 * 40 ≤ 140737488355328; decide) | ((with_reducible show (_ : Int) ≤ _); simp only; omega) | ((with_reducible show (_ : Int) < _); simp only; omega) | ((with_reducible show (_ : Nat) < _); simp only; omega) | ((with_reducible show (_ : Nat) ≤ _); simp only; omega) | skip
      all_goals intro c2 b1 b2
      all_goals (repeat' (first | exact aq | refine And.intro ?_ ?_ | exact trivial))
      all_goals first | exact dd | skip
      all_goals first | ((with_reducible show _ → InR _ _); exact fun _ => hmx) | ((with_reducible show under _ _); exact fun _ => hmx) | skip
      all_goals refine ⟨(0 + 1, c1, c2), ⟨hlt', fun _ => ⟨⟨a1, a2⟩, b1, b2⟩⟩, by simp only; omega, ?_⟩
      all_goals refine ent_tau [0, 1, 2, 3, 4, 5, 8, 10] ⟨?_, ?_, rfl⟩
      all_goals first | ((with_reducible show TmLe _ _ _); (repeat' (first | exact tm | refine And.intro ?_ ?_)); exact congrArg SV.bool (fit_step ek)) | (repeat' (first | exact fp | refine And.intro ?_ ?_))
      all_goals first | exact row_a0 (turned_row ek) | exact row_a0 (later_row ek)
    · exfalso
      have := of_decide_eq_false hlt
      simp only at this
      omega
  | succ k =>
    refine And.intro ?_ (And.intro (fun hlt => ?_) (fun hlt => ?_))
    · (repeat' (first | exact aq | refine And.intro ?_ ?_ | exact trivial))
    · have hlt' : k + 1 < t.n := by
        have := of_decide_eq_true hlt
        simp only at this
        omega
      have ek := z1 (k + 1)
      obtain ⟨o1, o2, o3⟩ := ok (0 + (((k + 1 : Nat)) : Int).toNat) (by rw [ek]; exact hlt')
      have hmx : InR .i64 ((if t.dh (0 + (((k + 1 : Nat)) : Int).toNat) > t.bh (0 + (((k + 1 : Nat)) : Int).toNat) then t.dh (0 + (((k + 1 : Nat)) : Int).toNat) else t.bh (0 + (((k + 1 : Nat)) : Int).toNat)) + d) := by split <;> exact ⟨by omega, by omega⟩
      obtain ⟨⟨q1, q2⟩, q3, q4⟩ := hc (Nat.succ_pos k)
      (repeat' (first | exact aq | refine And.intro ?_ ?_ | exact trivial))
      all_goals first | exact dd | skip
      all_goals first | ((with_reducible show allOneN _ _ _); exact one1 rfl) | exact q1 | exact q3 | exact q2 | exact q4 | (show (k + 1 + 1) * 40 ≤ 140737488355328; omega) | (show (k + 1) * 40 ≤ 140737488355328; omega) | (show 1 * 40 ≤ 140737488355328; decide) | ((with_reducible show (_ : Int) ≤ _); simp only; omega) | ((with_reducible show (_ : Int) < _); simp only; omega) | ((with_reducible show (_ : Nat) < _); simp only; omega) | ((with_reducible show (_ : Nat) ≤ _); simp only; omega) | skip
      intro c1 a1 a2
      (repeat' (first | exact aq | refine And.intro ?_ ?_ | exact trivial))
      all_goals first | exact dd | skip
      refine drawP E_ok [8] pl11_16s (by kernel_rfl) ?_
      (repeat' (first | exact aq | refine And.intro ?_ ?_ | exact trivial))
      all_goals first | exact dd | skip
      all_goals first | ((with_reducible show allOneN _ _ _); exact one1 rfl) | exact q1 | exact q3 | exact q2 | exact q4 | (show (k + 1 + 1) * 40 ≤ 140737488355328; omega) | (show (k + 1) * 40 ≤ 140737488355328; omega) | (show 1 * 40 ≤ 140737488355328; decide) | ((with_reducible show (_ : Int) ≤ _); simp only; omega) | ((with_reducible show (_ : Int) < _); simp only; omega) | ((with_reducible show (_ : Nat) < _); simp only; omega) | ((with_reducible show (_ : Nat) ≤ _); simp only; omega) | skip
      all_goals refine (t42 _ _ _ _ _).use [] ?_ (by (repeat' (first | exact fp | refine And.intro ?_ ?_))) rfl
      all_goals (repeat' (first | exact aq | refine And.intro ?_ ?_ | exact trivial))
      all_goals first | exact dd | skip
      all_goals first | ((with_reducible show allOneN _ _ _); exact one1 rfl) | exact q1 | exact q3 | exact q2 | exact q4 | (show (k + 1 + 1) * 40 ≤ 140737488355328; omega) | (show (k + 1) * 40 ≤ 140737488355328; omega) | (show 1 * 40 ≤ 140737488355328; decide) | ((with_reducible show (_ : Int) ≤ _); simp only; omega) | ((with_reducible show (_ : Int) < _); simp only; omega) | ((with_reducible show (_ : Nat) < _); simp only; omega) | ((with_reducible show (_ : Nat) ≤ _); simp only; omega) | skip
      all_goals intro c2 b1 b2
      all_goals (repeat' (first | exact aq | refine And.intro ?_ ?_ | exact trivial))
      all_goals first | exact dd | skip
      all_goals first | ((with_reducible show _ → InR _ _); exact fun _ => hmx) | ((with_reducible show under _ _); exact fun _ => hmx) | skip
      all_goals refine ⟨(k + 1 + 1, c1, c2), ⟨hlt', fun _ => ⟨⟨a1, a2⟩, b1, b2⟩⟩, by simp only; omega, ?_⟩
      all_goals refine ent_tau [0, 1, 2, 3, 4, 5, 10, 12] ⟨?_, ?_, rfl⟩
      all_goals first | ((with_reducible show TmLe _ _ _); (repeat' (first | exact tm | refine And.intro ?_ ?_)); exact congrArg SV.bool (fit_step ek)) | (repeat' (first | exact fp | refine And.intro ?_ ?_))
      all_goals first | exact row_a (turned_row ek) | exact row_a (later_row ek)
    · have e : k + 1 = t.n := by
        have := of_decide_eq_false hlt
        simp only at this
        omega
      (repeat' (first | exact aq | refine And.intro ?_ ?_ | exact trivial))
      refine CodeP.part (seg11e t hv x (YY t (k + 1) cy) (ZZ t d (k + 1) cz) hxv hxb hxn (yy_valid hv e) rfl (fitN t d t.n) (zz_valid hv hd.1 e) rfl i hi hxi (show i < k + 1 by omega) (show i < k + 1 by omega) m d hm hd (fun q => yy_same e q m) (yy_nil e) (fun _ q => zz_late e hi q) (fun _ q => zz_nil e q)) ?_
      refine ent_tau [0, 1, 2, 3, 4, 5, 6, 7] ⟨by (repeat' (first | exact fp | refine And.intro ?_ ?_)), ?_, rfl⟩
      (repeat' (first | exact tm | refine And.intro ?_ ?_))
      all_goals exact congrArg SV.bool (by rw [← e])
end Go.Proofs.Ytioajogaghgipaa
/-
  TicketMore: a minute that is known better.
-/
namespace Go.Proofs.Ytioajogaghgipaa
open Go Go.Sy Tic
set_option linter.unusedSimpArgs false
set_option maxRecDepth 100000
set_option maxHeartbeats 4000000
attribute [local irreducible] CallP CodeP Ent YieldP
set_option maxHeartbeats 16000000
-- fast: YtioajogaghgipaaDd
def XD (t : TK) (i n c : Nat) : TK := { narD t i with n := n, b := true, cap := c }
def XB' (t : TK) (i n c : Nat) : TK := { narB t i with n := n, b := true, cap := c }
theorem xd_valid {t : TK} (hv : t.Valid) {i n c : Nat} (hi : i < t.n) (h : n = t.n) : (XD t i n c).Valid := by
  subst h
  exact valid_bc true c (narD_valid hv hi)
theorem xb_valid {t : TK} (hv : t.Valid) {i n c : Nat} (hi : i < t.n) (h : n = t.n) : (XB' t i n c).Valid := by
  subst h
  exact valid_bc true c (narB_valid hv hi)
theorem nar_bc {t x : TK} (h : TK.Nar t x) (b : Bool) (c : Nat) : TK.Nar t { x with b := b, cap := c } := ⟨h.n, fun y hy => by rw [trs_bc] at hy; exact h.sub y hy⟩
theorem xd_nar {t : TK} (hv : t.Valid) {i n c : Nat} (hi : i < t.n) (h : n = t.n) : TK.Nar t (XD t i n c) := by
  subst h
  exact nar_bc (narD_nar hv i hi) true c
theorem xb_nar {t : TK} (hv : t.Valid) {i n c : Nat} (hi : i < t.n) (h : n = t.n) : TK.Nar t (XB' t i n c) := by
  subst h
  exact nar_bc (narB_nar hv i hi) true c
theorem row_nd (t : TK) (i : Nat) (v : Int) (M : Nat) (hv : v = min (t.dh (0 + ((i : Nat) : Int).toNat)) (t.dl (0 + ((i : Nat) : Int).toNat) + 1)) : ∀ k, k < M → selL (decide (k = 0 + ((i : Nat) : Int).toNat)) (splice (TF t (0 + ((i : Nat) : Int).toNat)) 3 [.int .i64 v]) (TF t k) = TF (narD t i) k := fun k _ => by
  have ei := z1 i
  rw [ei] at hv ⊢
  by_cases c : k = i
  · subst c
    rw [decide_eq_true rfl, selL_true, hv]
    show [SV.int .i64 (t.bl k), SV.int .i64 (t.bh k), SV.int .i64 (t.hut k), SV.int .i64 (min (t.dh k) (t.dl k + 1)), SV.int .i64 (t.dh k)] = _
    unfold TF narD
    simp
  · rw [decide_eq_false c, selL_false]
    unfold TF narD
    simp [c]
theorem row_nb (t : TK) (i : Nat) (v : Int) (M : Nat) (hv : v = max (t.bl (0 + ((i : Nat) : Int).toNat)) (t.bh (0 + ((i : Nat) : Int).toNat) - 1)) : ∀ k, k < M → selL (decide (k = 0 + ((i : Nat) : Int).toNat)) (splice (TF t (0 + ((i : Nat) : Int).toNat)) 1 [.int .i64 v]) (TF t k) = TF (narB t i) k := fun k _ => by
  have ei := z1 i
  rw [ei] at hv ⊢
  by_cases c : k = i
  · subst c
    rw [decide_eq_true rfl, selL_true, hv]
    show [SV.int .i64 (t.bl k), SV.int .i64 (max (t.bl k) (t.bh k - 1)), SV.int .i64 (t.hut k), SV.int .i64 (t.dl k), SV.int .i64 (t.dh k)] = _
    unfold TF narB
    simp
  · rw [decide_eq_false c, selL_false]
    unfold TF narB
    simp [c]
noncomputable def T11c (by' : Int) (i : Nat) (m d : Int) : Tm := mkT [] [(3, .int .u8 by'), (4, .ptr 1 0), (9, .int .i64 i), (10, .int .i64 m), (11, .int .i64 d), (12, .ptr 2 0), (13, .ptr 3 0), (14, .ptr 4 0)] 0 (List.replicate 565 none)
def H11c (t : TK) : SHeap := TH t ++ [some (.cells (tb t)), some (.cells (tb t)), some (.cells [.int .i64 t.huts, .snil]), some (.cells [.int .i64 t.huts, .snil])]
def pl11_8s : Plan := .eager 0 <| .eager 1 <| .eager 2 <| .eager 3 <| .eager 5 <| .eager 6 <| .eager 7 <| .alt 4 (.alt 8 (.eager 9 <| .eager 10 <| .eager 11 <| .eager 12 <| .alt 13 (.done) .no) .no) (.alt 8 (.eager 9 <| .alt 4 (.eager 10 <| .eager 11 <| .eager 12 <| .alt 13 (.done) .no) .no) .no)
def pl11_10s : Plan := .eager 0 <| .eager 1 <| .eager 2 <| .eager 3 <| .eager 5 <| .eager 6 <| .eager 7 <| .alt 4 (.alt 8 (.eager 9 <| .eager 10 <| .eager 11 <| .eager 12 <| .alt 13 (.done) .no) .no) (.alt 8 (.eager 9 <| .alt 4 (.eager 10 <| .eager 11 <| .eager 12 <| .alt 13 (.done) .no) .no) .no)
def H11c2 (t : TK) (N c : Nat) : SHeap := TH t ++ [some (.cells (tb t)), some (.cells [.int .i64 t.huts, .slice 5 5 0 N c]), some (.cells [.int .i64 t.huts, .snil]), some (.cells [.int .i64 t.huts, .snil]), some (.arr 5 N c (TF t))]
theorem seg11c2 (t : TK) (hv : t.Valid) (by' : Int) (hb : 0 ≤ by' ∧ by' ≤ 255) (i : Nat) (hi : i < t.n) (m d : Int) (hm : 0 ≤ m ∧ m ≤ 240) (hd : 0 ≤ d ∧ d ≤ 60) (N c : Nat) (hN : N = t.n) (hNc : N ≤ c) :
    CodeP Try.prog none 1 (sufC Try.f11 5) ⟨T11c by' i m d, H11c2 t N c, []⟩ (KRet E Try.f11 1 (.bool true) (TH t)) := by
  have hn := hv.2.1
  have ei := z1 i
  have ok := hv.2.2 i hi
  unfold TK.okT spanOk at ok
  rw [← ei] at ok
  have hiN : 0 + ((i : Nat) : Int).toNat < N := by omega
  refine codeP_XK E_ok 1 ?_
  (repeat' (first | exact aq | refine And.intro ?_ ?_ | exact trivial))
  all_goals first | exact dd | skip
  · intro hx
    (repeat' (first | exact aq | refine And.intro ?_ ?_ | exact trivial))
    all_goals first | exact dd | skip
    refine drawP E_ok [] pl11_8s (by kernel_rfl) ?_
    (repeat' (first | exact aq | refine And.intro ?_ ?_ | exact trivial))
    all_goals first | exact dd | skip
    all_goals refine CodeP.part (seg11d t hv (XD t i N c) (xd_valid hv hi hN) rfl (xd_nar hv hi hN) i hi (show i < N by omega) m d hm hd) ?_
    all_goals refine ent_tau [0, 1, 2, 3, 4, 5] ⟨?_, by (repeat' (first | exact tm | refine And.intro ?_ ?_)), rfl⟩
    all_goals (repeat' (first | exact fp | refine And.intro ?_ ?_))
    all_goals exact row_nd t i _ _ (by split <;> omega)
  · intro hx
    (repeat' (first | exact aq | refine And.intro ?_ ?_ | exact trivial))
    all_goals first | exact dd | skip
    refine drawP E_ok [] pl11_10s (by kernel_rfl) ?_
    (repeat' (first | exact aq | refine And.intro ?_ ?_ | exact trivial))
    all_goals first | exact dd | skip
    all_goals refine CodeP.part (seg11d t hv (XB' t i N c) (xb_valid hv hi hN) rfl (xb_nar hv hi hN) i hi (show i < N by omega) m d hm hd) ?_
    all_goals refine ent_tau [0, 1, 2, 3, 4, 5] ⟨?_, by (repeat' (first | exact tm | refine And.intro ?_ ?_)), rfl⟩
    all_goals (repeat' (first | exact fp | refine And.intro ?_ ?_))
    all_goals exact row_nb t i _ _ (by split <;> omega)
theorem seg11c (t : TK) (hv : t.Valid) (by' : Int) (hb : 0 ≤ by' ∧ by' ≤ 255) (i : Nat) (hi : i < t.n) (m d : Int) (hm : 0 ≤ m ∧ m ≤ 240) (hd : 0 ≤ d ∧ d ≤ 60) :
    CodeP Try.prog none 1 (sufC Try.f11 4) ⟨T11c by' i m d, H11c t, []⟩ (KRet E Try.f11 1 (.bool true) (TH t)) := by
  have hn := hv.2.1
  refine codeP_XK E_ok 1 ?_
  (repeat' (first | exact aq | refine And.intro ?_ ?_ | exact trivial))
  all_goals first | exact dd | skip
  all_goals first | exact (fun k _ => rfl) | (show (0 + t.n) * 40 ≤ 140737488355328; omega) | skip
  intro c hc1 hc2
  have hc1 : 0 + t.n ≤ c := hc1
  (repeat' (first | exact aq | refine And.intro ?_ ?_ | exact trivial))
  all_goals first | exact dd | skip
  refine CodeP.part (seg11c2 t hv by' hb i hi m d hm hd (0 + t.n) c (Nat.zero_add _) hc1) ?_
  refine ent_tau [0, 1, 2, 3, 4, 6] ⟨?_, by (repeat' (first | exact tm | refine And.intro ?_ ?_)), rfl⟩
  (repeat' (first | exact fp | refine And.intro ?_ ?_))
  all_goals exact row_app0
noncomputable def T11b (by' : Int) (i : Nat) (m d : Int) : Tm := mkT [] [(3, .int .u8 by'), (4, .ptr 1 0), (9, .int .i64 i), (10, .int .i64 m), (11, .int .i64 d)] 0 (List.replicate 565 none)
theorem seg11b (t : TK) (hv : t.Valid) (by' : Int) (hb : 0 ≤ by' ∧ by' ≤ 255) (i : Nat) (hi : i < t.n) (m d : Int) (hm : 0 ≤ m ∧ m ≤ 240) (hd : 0 ≤ d ∧ d ≤ 60) :
    CodeP Try.prog none 1 (sufC Try.f11 3) ⟨T11b by' i m d, TH t ++ [some (.cells (tb t))], []⟩ (KRet E Try.f11 1 (.bool true) (TH t)) := by
  refine codeP_XK E_ok 1 ?_
  (repeat' (first | exact aq | refine And.intro ?_ ?_ | exact trivial))
  all_goals first | exact dd | skip
  refine drawP E_ok [1] pl11_4 (by kernel_rfl) ?_
  (repeat' (first | exact aq | refine And.intro ?_ ?_ | exact trivial))
  all_goals first | exact dd | skip
  all_goals refine CodeP.part (seg11c t hv by' hb i hi m d hm hd) ?_
  · exact ent_tau [0, 1, 2, 3, 4] ⟨by (repeat' (first | exact fp | refine And.intro ?_ ?_)), by (repeat' (first | exact tm | refine And.intro ?_ ?_)), rfl⟩
  · exact ent_tau [0, 1, 2, 4, 3] ⟨by (repeat' (first | exact fp | refine And.intro ?_ ?_)), by (repeat' (first | exact tm | refine And.intro ?_ ?_)), rfl⟩
  · exact ent_tau [0, 1, 3, 2, 4] ⟨by (repeat' (first | exact fp | refine And.intro ?_ ?_)), by (repeat' (first | exact tm | refine And.intro ?_ ?_)), rfl⟩
  · exact ent_tau [0, 1, 4, 2, 3] ⟨by (repeat' (first | exact fp | refine And.intro ?_ ?_)), by (repeat' (first | exact tm | refine And.intro ?_ ?_)), rfl⟩
  · exact ent_tau [0, 1, 3, 4, 2] ⟨by (repeat' (first | exact fp | refine And.intro ?_ ?_)), by (repeat' (first | exact tm | refine And.intro ?_ ?_)), rfl⟩
  · exact ent_tau [0, 1, 4, 3, 2] ⟨by (repeat' (first | exact fp | refine And.intro ?_ ?_)), by (repeat' (first | exact tm | refine And.intro ?_ ?_)), rfl⟩
theorem t11 (t : TK) (hI : InR .i64 t.huts) (hl : t.n ≤ 9223372036854775807) (a b e : Int) (ha : 0 ≤ a ∧ a ≤ 255) (hb : 0 ≤ b ∧ b ≤ 255) (he : 0 ≤ e ∧ e ≤ 255) : CallP Try.prog 11 [TA t, .int .u8 a, .int .u8 b, .int .u8 e] (TH t) (Ret (.bool true) (TH t)) := by
  have c39 := t39 t
  by_cases h40 : 40 < t.n
  · rw [decide_eq_true h40] at c39
    refine callR (E := E) E_ok Try.func11 rfl ?_
    (repeat' (first | exact aq | refine And.intro ?_ ?_ | exact trivial))
    refine c39.use [0] ?_ (by (repeat' (first | exact fp | refine And.intro ?_ ?_))) rfl
    all_goals (repeat' (first | exact aq | refine And.intro ?_ ?_ | exact trivial))
    all_goals first | exact dd | skip
    all_goals intro h1
    all_goals first | exact absurd h1 (by decide) | (cases h1; done) | skip
    (repeat' (first | exact aq | refine And.intro ?_ ?_ | exact trivial))
    all_goals first | exact dd | skip
    all_goals (repeat' (first | exact aq | refine And.intro ?_ ?_ | exact trivial))
    all_goals first | exact dd | skip
    all_goals intro h2
    all_goals first | exact absurd h2 (by decide) | (cases h2; done) | skip
    (repeat' (first | exact aq | refine And.intro ?_ ?_ | exact trivial))
    all_goals first | exact dd | skip
    refine t13.use [] ?_ trivial rfl
    (repeat' (first | exact aq | refine And.intro ?_ ?_ | exact trivial))
    exact ent_tau [0] ⟨by (repeat' (first | exact fp | refine And.intro ?_ ?_)), by (repeat' (first | exact tm | refine And.intro ?_ ?_)), rfl⟩
  · rw [decide_eq_false h40] at c39
    have c40 := t40 t (by omega)
    obtain ⟨v, hv⟩ : ∃ v, vb t = v := ⟨_, rfl⟩
    rw [hv] at c40
    cases v with
    | false =>
      refine callR (E := E) E_ok Try.func11 rfl ?_
      (repeat' (first | exact aq | refine And.intro ?_ ?_ | exact trivial))
      refine c39.use [0] ?_ (by (repeat' (first | exact fp | refine And.intro ?_ ?_))) rfl
      all_goals (repeat' (first | exact aq | refine And.intro ?_ ?_ | exact trivial))
      all_goals first | exact dd | skip
      all_goals intro h1
      all_goals first | exact absurd h1 (by decide) | (cases h1; done) | skip
      refine c40.use [0] ?_ (by (repeat' (first | exact fp | refine And.intro ?_ ?_))) rfl
      all_goals (repeat' (first | exact aq | refine And.intro ?_ ?_ | exact trivial))
      all_goals first | exact dd | skip
      all_goals intro h2
      all_goals first | exact absurd h2 (by decide) | (cases h2; done) | skip
      (repeat' (first | exact aq | refine And.intro ?_ ?_ | exact trivial))
      all_goals first | exact dd | skip
      refine t13.use [] ?_ trivial rfl
      (repeat' (first | exact aq | refine And.intro ?_ ?_ | exact trivial))
      exact ent_tau [0] ⟨by (repeat' (first | exact fp | refine And.intro ?_ ?_)), by (repeat' (first | exact tm | refine And.intro ?_ ?_)), rfl⟩
    | true =>
      have hv := vb_iff.1 hv
      by_cases h0 : t.n = 0
      · have d5 : decide (((t.n : Nat) : Int) = 0) = true := decide_eq_true (by omega)
        refine callR (E := E) E_ok Try.func11 rfl ?_
        (repeat' (first | exact aq | refine And.intro ?_ ?_ | exact trivial))
        refine c39.use [0] ?_ (by (repeat' (first | exact fp | refine And.intro ?_ ?_))) rfl
        all_goals (repeat' (first | exact aq | refine And.intro ?_ ?_ | exact trivial))
        all_goals first | exact dd | skip
        all_goals intro h1
        all_goals first | exact absurd h1 (by decide) | (cases h1; done) | skip
        refine c40.use [0] ?_ (by (repeat' (first | exact fp | refine And.intro ?_ ?_))) rfl
        (repeat' (first | exact aq | refine And.intro ?_ ?_ | exact trivial))
        all_goals first | exact dd | skip
        all_goals intro h2
        all_goals first | (exfalso; rw [d5] at h2; exact Bool.noConfusion (show true = false from h2)) | skip
        (repeat' (first | exact aq | refine And.intro ?_ ?_ | exact trivial))
        refine t13.use [] ?_ trivial rfl
        (repeat' (first | exact aq | refine And.intro ?_ ?_ | exact trivial))
        exact ent_tau [0] ⟨by (repeat' (first | exact fp | refine And.intro ?_ ?_)), by (repeat' (first | exact tm | refine And.intro ?_ ?_)), rfl⟩
      · have d5 : decide (((t.n : Nat) : Int) = 0) = false := decide_eq_false (by omega)
        obtain ⟨i, hi⟩ : ∃ i : Nat, (a.tmod ((t.n : Nat) : Int)) = i := ⟨(a.tmod ((t.n : Nat) : Int)).toNat, by
          rw [Int.tmod_eq_emod_of_nonneg ha.1]
          have q1 := Int.emod_nonneg a (show ((t.n : Nat) : Int) ≠ 0 by omega)
          omega⟩
        have hi0 : i < t.n := by
          have q2 := Int.emod_lt_of_pos a (show 0 < ((t.n : Nat) : Int) by omega)
          rw [Int.tmod_eq_emod_of_nonneg ha.1] at hi
          omega
        obtain ⟨m, hm⟩ : ∃ m : Int, (b.tmod 241) = m := ⟨_, rfl⟩
        have hm0 : 0 ≤ m ∧ m ≤ 240 := by rw [← hm, Int.tmod_eq_emod_of_nonneg hb.1]; omega
        obtain ⟨d, hd⟩ : ∃ d : Int, (e.tmod 60) = d := ⟨_, rfl⟩
        have hd0 : 0 ≤ d ∧ d ≤ 60 := by rw [← hd, Int.tmod_eq_emod_of_nonneg he.1]; omega
        refine callRK (E := E) E_ok 3 Try.func11 rfl ?_
        (repeat' (first | exact aq | refine And.intro ?_ ?_ | exact trivial))
        refine c39.use [0] ?_ (by (repeat' (first | exact fp | refine And.intro ?_ ?_))) rfl
        all_goals (repeat' (first | exact aq | refine And.intro ?_ ?_ | exact trivial))
        all_goals first | exact dd | skip
        all_goals intro h1
        all_goals first | exact absurd h1 (by decide) | (cases h1; done) | skip
        refine c40.use [0] ?_ (by (repeat' (first | exact fp | refine And.intro ?_ ?_))) rfl
        (repeat' (first | exact aq | refine And.intro ?_ ?_ | exact trivial))
        all_goals first | exact dd | skip
        all_goals intro h2
        all_goals first | (exfalso; rw [d5] at h2; exact Bool.noConfusion (show false = true from h2)) | skip
        (repeat' (first | exact aq | refine And.intro ?_ ?_ | exact trivial))
        all_goals first | exact dd | skip
        refine CodeP.pre ?_ (seg11b t hv e he i hi0 m d hm0 hd0)
        refine ent_tau [0, 1] ⟨by (repeat' (first | exact fp | refine And.intro ?_ ?_)), ?_, rfl⟩
        (repeat' (first | exact tm | refine And.intro ?_ ?_))
        all_goals first | exact congrArg (SV.int .i64) hi | exact congrArg (SV.int .i64) hm | exact congrArg (SV.int .i64) hd
end Go.Proofs.Ytioajogaghgipaa
