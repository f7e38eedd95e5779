/-
  Parts: W1, W2, W3, W4, W5.
-/
import Derived.Test.YtioajogaghgipaaK27
set_option linter.unusedVariables false
namespace Go.Proofs.Ytioajogaghgipaa
open Go Go.Sy Tic
def pl11_4 : Plan := .eager 0 <| .eager 1 <| .eager 2 <| .eager 3 <| .eager 4 <| .eager 5 <| .eager 6 <| (.alt 7 ((.alt 8 (.alt 9 (.alt 10 (.alt 11 (.alt 12 (.done) .no) .no) .no) .no) (.alt 9 (.alt 8 (.alt 10 (.alt 11 (.alt 12 (.done) .no) .no) .no) .no) .no))) (.alt 8 ((.alt 7 (.alt 9 (.alt 10 (.alt 11 (.alt 12 (.done) .no) .no) .no) .no) (.alt 9 (.alt 7 (.alt 10 (.alt 11 (.alt 12 (.done) .no) .no) .no) .no) .no))) (.alt 9 ((.alt 7 (.alt 8 (.alt 10 (.alt 11 (.alt 12 (.done) .no) .no) .no) .no) (.alt 8 (.alt 7 (.alt 10 (.alt 11 (.alt 12 (.done) .no) .no) .no) .no) .no))) .no)))
def pl11_26 : Plan := .eager 0 <| .eager 1 <| .eager 2 <| .eager 3 <| .eager 4 <| .eager 5 <| .eager 6 <| .eager 7 <| .alt 8 (.eager 9 <| .eager 10 <| .eager 11 <| .eager 12 <| .eager 13 <| .done) .no
def pl11_49 : Plan := .eager 0 <| .eager 1 <| .eager 2 <| .eager 3 <| .eager 4 <| .eager 5 <| .eager 6 <| .eager 7 <| .alt 8 (.eager 9 <| .eager 10 <| .eager 11 <| .eager 12 <| .eager 13 <| .done) .no
def pl11_43 : Plan := .eager 0 <| .eager 1 <| .eager 2 <| .eager 3 <| .eager 4 <| .eager 5 <| .eager 6 <| .eager 7 <| .eager 8 <| .alt 9 (.eager 10 <| .eager 11 <| .eager 12 <| .eager 13 <| .eager 14 <| .eager 15 <| .eager 16 <| .eager 17 <| .eager 18 <| .eager 19 <| .eager 20 <| .alt 21 (.eager 22 <| .eager 23 <| .eager 24 <| .eager 25 <| .eager 26 <| .eager 27 <| .eager 28 <| .eager 29 <| .eager 30 <| .eager 31 <| .eager 32 <| .eager 33 <| .eager 34 <| .eager 35 <| .eager 36 <| .eager 37 <| .eager 38 <| .eager 39 <| .eager 40 <| .eager 41 <| .eager 42 <| .eager 43 <| .eager 44 <| .eager 45 <| .eager 46 <| .eager 47 <| .eager 48 <| .done) .no) .no
def pl11_57 : Plan := .eager 0 <| .eager 1 <| .eager 2 <| .eager 3 <| .eager 4 <| .eager 5 <| .eager 6 <| .eager 7 <| .eager 8 <| .eager 9 <| .done
end Go.Proofs.Ytioajogaghgipaa
namespace Tic
theorem hull_uniq {l : List Int} {s : Int × Int} (h : IsHull l s) : hull l = s := by
  have hne : l ≠ [] := fun e => by
    subst e
    cases h.1.1
  exact (hull_is hne).uniq h fun _ => Iff.rfl
theorem maskN_congr {p q : Nat → Bool} : ∀ {n : Nat}, (∀ i, i < n → p i = q i) → maskN p n = maskN q n
  | 0, _ => rfl
  | n + 1, h => by rw [maskN, maskN, maskN_congr (n := n) fun i hi => h i (by omega), h n (by omega)]
namespace TK
theorem anyB_congr {p q : Nat → Bool} : ∀ {n : Nat}, (∀ i, i < n → p i = q i) → anyB p n = anyB q n
  | 0, _ => rfl
  | n + 1, h => by rw [anyB, anyB, anyB_congr (n := n) fun i hi => h i (by omega), h n (by omega)]

def turned (t : TK) : TK := { t with hut := fun i => t.huts - 1 - t.hut i }
theorem corr_turned (t : TK) : Corr t t.turned id := by
  have key : ∀ x, x ∈ t.turned.trs ↔ x ∈ t.trs := fun x => by
    rw [mem_trs, mem_trs]
    refine and_congr Iff.rfl (and_congr Iff.rfl ⟨fun H i k hi hk hne e => H i k hi hk hne ?_, fun H i k hi hk hne e => H i k hi hk hne ?_⟩)
    · show t.huts - 1 - t.hut i = t.huts - 1 - t.hut k
      rw [e]
    · have e' : t.huts - 1 - t.hut i = t.huts - 1 - t.hut k := e
      omega
  exact ⟨rfl, fun x hx => (key x).2 hx, fun y hy => ⟨y, (key y).1 hy, rfl⟩⟩
theorem turned_used (t : TK) (x : Tru) (h m : Int) : t.turned.used x (t.huts - 1 - h) m = t.used x h m := anyB_congr fun i _ => by
  congr 1
  refine decide_eq_decide.2 ?_
  show t.huts - 1 - t.hut i = t.huts - 1 - h ↔ t.hut i = h
  omega
theorem turned_bought (t : TK) (i : Nat) : t.turned.bought i = t.bought i := (corr_turned t).hull fun _ _ => rfl
theorem turned_door (t : TK) (i : Nat) : t.turned.door i = t.door i := (corr_turned t).hull fun _ _ => rfl
theorem turned_turn (t : TK) (i : Nat) : t.turned.turn i = t.turn i := (corr_turned t).grade fun _ _ => rfl
theorem turned_surely (t : TK) (i : Nat) : t.turned.surely i = t.surely i := maskN_congr fun _ _ => (corr_turned t).all fun _ _ => rfl
theorem turned_perhaps (t : TK) (i : Nat) : t.turned.perhaps i = t.perhaps i := maskN_congr fun _ _ => (corr_turned t).any fun _ _ => rfl
theorem turned_waits (t : TK) : t.turned.waits = t.waits := (corr_turned t).hull fun _ _ => rfl
theorem turned_wrong (t : TK) : t.turned.wrong = t.wrong := (corr_turned t).hull fun _ _ => rfl
theorem turned_whose (t : TK) (m : Int) : t.turned.whose m = t.whose m := maskN_congr fun _ _ => (corr_turned t).any fun _ _ => rfl
theorem turned_nobody (t : TK) (m : Int) : t.turned.nobody m = t.nobody m := (corr_turned t).any fun _ _ => rfl
theorem turned_free (t : TK) (h m : Int) : t.turned.freeT (t.huts - 1 - h) m = t.freeT h m := (corr_turned t).grade fun x _ => by
  show (!t.turned.used x (t.huts - 1 - h) m) = !t.used x h m
  rw [turned_used]

def later (t : TK) (d : Int) : TK := { t with bl := fun i => t.bl i + d, bh := fun i => t.bh i + d, dl := fun i => t.dl i + d, dh := fun i => t.dh i + d }
theorem corr_later (t : TK) (d : Int) : Corr t (t.later d) (shift t.n d) := by
  refine ⟨rfl, fun x hx => ?_, fun y hy => ?_⟩
  · obtain ⟨h0, h1, h2⟩ := mem_trs.1 hx
    refine mem_trs.2 ⟨fun i hi => if_neg (Nat.not_lt.2 hi), fun i hi => ?_, fun i k hi hk hne e => ?_⟩
    · have hi' : i < t.n := hi
      have := h1 i hi
      unfold okP at this
      unfold okP later shift
      simp only [if_pos hi']
      omega
    · have hi' : i < t.n := hi
      have hk' : k < t.n := hk
      have := h2 i k hi hk hne e
      unfold shift
      simp only [if_pos hi', if_pos hk']
      rw [Bool.eq_false_iff, ne_eq, near_iff] at this ⊢
      omega
  · obtain ⟨h0, h1, h2⟩ := mem_trs.1 hy
    refine ⟨shift t.n (-d) y, mem_trs.2 ⟨fun i hi => if_neg (Nat.not_lt.2 hi), fun i hi => ?_, fun i k hi hk hne e => ?_⟩, ?_⟩
    · have := h1 i hi
      unfold okP later at this
      simp only at this
      unfold okP shift
      simp only [if_pos hi]
      omega
    · have := h2 i k hi hk hne e
      unfold shift
      simp only [if_pos hi, if_pos hk]
      rw [Bool.eq_false_iff, ne_eq, near_iff] at this ⊢
      omega
    · funext i
      unfold shift
      by_cases c : i < t.n
      · simp only [if_pos c]
        exact Prod.ext (by simp only; omega) (by simp only; omega)
      · simp only [if_neg c]
        exact (h0 i (Nat.not_lt.1 c)).symm
theorem shift_over {n : Nat} {d : Int} {x : Tru} {a b : Nat} (ha : a < n) (hb : b < n) : over (shift n d x) a b = over x a b := by
  rw [Bool.eq_iff_iff, over_iff, over_iff]
  unfold shift
  simp only [if_pos ha, if_pos hb]
  omega
theorem shift_overs {n : Nat} {d : Int} {x : Tru} {a : Nat} (ha : a < n) : overs n (shift n d x) a = overs n x a := anyB_congr fun _ hb => shift_over ha hb
theorem shift_longest {n : Nat} {d : Int} {x : Tru} : ∀ {k : Nat}, k ≤ n → longest (shift n d x) k = longest x k
  | 0, _ => rfl
  | k + 1, hk => by
    rw [longest, longest, shift_longest (k := k) (by omega)]
    have : ((shift n d x) k).2 - ((shift n d x) k).1 = (x k).2 - (x k).1 := by
      unfold shift
      rw [if_pos (by omega)]
      simp only
      omega
    rw [this]
theorem hull_plus {l : List Int} (hne : l ≠ []) (d : Int) : hull (l.map fun x => x + d) = ((hull l).1 + d, (hull l).2 + d) := by
  have h := hull_is hne
  refine hull_uniq ⟨⟨List.mem_map.2 ⟨_, h.1.1, rfl⟩, fun y hy => ?_⟩, List.mem_map.2 ⟨_, h.2.1, rfl⟩, fun y hy => ?_⟩
  · obtain ⟨z, hz, rfl⟩ := List.mem_map.1 hy
    have := h.1.2 z hz
    simp only
    omega
  · obtain ⟨z, hz, rfl⟩ := List.mem_map.1 hy
    have := h.2.2 z hz
    simp only
    omega
theorem later_bought {t : TK} (hne : t.trs ≠ []) {i : Nat} (hi : i < t.n) (d : Int) : (t.later d).bought i = ((t.bought i).1 + d, (t.bought i).2 + d) := by
  unfold bought
  rw [(corr_later t d).hull (f := fun x => (x i).1 + d) fun x _ => by show (shift t.n d x i).1 = _; unfold shift; rw [if_pos hi]]
  have := hull_plus (l := t.trs.map fun x => (x i).1) (fun e => hne (List.map_eq_nil_iff.1 e)) d
  rw [List.map_map] at this
  exact this
theorem later_door {t : TK} (hne : t.trs ≠ []) {i : Nat} (hi : i < t.n) (d : Int) : (t.later d).door i = ((t.door i).1 + d, (t.door i).2 + d) := by
  unfold door
  rw [(corr_later t d).hull (f := fun x => (x i).2 + d) fun x _ => by show (shift t.n d x i).2 = _; unfold shift; rw [if_pos hi]]
  have := hull_plus (l := t.trs.map fun x => (x i).2) (fun e => hne (List.map_eq_nil_iff.1 e)) d
  rw [List.map_map] at this
  exact this
theorem later_turn {t : TK} {i : Nat} (hi : i < t.n) (d : Int) : (t.later d).turn i = t.turn i := (corr_later t d).grade fun x _ => by
  show (!overs t.n (shift t.n d x) i) = !overs t.n x i
  rw [shift_overs hi]
theorem later_surely {t : TK} {i : Nat} (hi : i < t.n) (d : Int) : (t.later d).surely i = t.surely i := maskN_congr fun o ho => (corr_later t d).all fun x _ => shift_over hi ho
theorem later_perhaps {t : TK} {i : Nat} (hi : i < t.n) (d : Int) : (t.later d).perhaps i = t.perhaps i := maskN_congr fun o ho => (corr_later t d).any fun x _ => shift_over hi ho
theorem later_waits (t : TK) (d : Int) : (t.later d).waits = t.waits := (corr_later t d).hull fun x _ => shift_longest (Nat.le_refl _)
theorem later_wrong (t : TK) (d : Int) : (t.later d).wrong = t.wrong := (corr_later t d).hull fun x _ => by
  show ((cntN (fun i => overs t.n (shift t.n d x) i) t.n : Nat) : Int) = ((cntN (fun i => overs t.n x i) t.n : Nat) : Int)
  rw [cntN_congr fun i hi => shift_overs hi]
end TK
end Tic
/-
  Statements: a number in a span; tickets in which the minutes of one are known.
-/
namespace Go.Proofs.Ytioajogaghgipaa
open Go Go.Sy Tic
set_option linter.unusedSimpArgs false
set_option maxRecDepth 100000
set_option maxHeartbeats 4000000
attribute [local irreducible] CallP CodeP Ent YieldP
set_option maxHeartbeats 16000000

theorem row_app0 {f : Nat → List SV} {g : Nat → List SV} {n : Nat} : ∀ k, k < 0 + n → selL (decide (k < 0)) (g k) (f (0 + (k - 0))) = f k := fun k _ => by
  rw [decide_eq_false (Nat.not_lt_zero k), selL_false, Nat.sub_zero, Nat.zero_add]
end Go.Proofs.Ytioajogaghgipaa
/-
  TicketMore: a minute known better; all so many minutes later.
-/
namespace Go.Proofs.Ytioajogaghgipaa
open Go Go.Sy Tic
set_option linter.unusedSimpArgs false
set_option maxRecDepth 100000
set_option maxHeartbeats 4000000
attribute [local irreducible] CallP CodeP Ent YieldP
set_option maxHeartbeats 16000000

/-- The first minute at which a door was closed, or the last one at which a ticket was bought, known better. -/
def narD (t : TK) (i : Nat) : TK := { t with dl := fun k => if k = i then min (t.dh i) (t.dl i + 1) else t.dl k }
def narB (t : TK) (i : Nat) : TK := { t with bh := fun k => if k = i then max (t.bl i) (t.bh i - 1) else t.bh k }
theorem narD_valid {t : TK} (hv : t.Valid) {i : Nat} (hi : i < t.n) : (narD t i).Valid := by
  refine ⟨hv.1, hv.2.1, fun k hk => ?_⟩
  have h1 := hv.2.2 k hk
  have h2 := hv.2.2 i hi
  unfold TK.okT spanOk at h1 h2
  unfold TK.okT spanOk narD
  simp only
  by_cases c : k = i
  · subst c
    rw [if_pos rfl]
    omega
  · rw [if_neg c]
    omega
theorem narB_valid {t : TK} (hv : t.Valid) {i : Nat} (hi : i < t.n) : (narB t i).Valid := by
  refine ⟨hv.1, hv.2.1, fun k hk => ?_⟩
  have h1 := hv.2.2 k hk
  have h2 := hv.2.2 i hi
  unfold TK.okT spanOk at h1 h2
  unfold TK.okT spanOk narB
  simp only
  by_cases c : k = i
  · subst c
    rw [if_pos rfl]
    omega
  · rw [if_neg c]
    omega
theorem narD_nar {t : TK} (hv : t.Valid) (i : Nat) (hi : i < t.n) : TK.Nar t (narD t i) := by
  refine TK.Nar.of rfl (fun _ _ => rfl) fun k hk => ?_
  have h2 := hv.2.2 i hi
  unfold TK.okT spanOk at h2
  unfold narD
  simp only
  by_cases c : k = i
  · subst c
    rw [if_pos rfl]
    omega
  · rw [if_neg c]
    omega
theorem narB_nar {t : TK} (hv : t.Valid) (i : Nat) (hi : i < t.n) : TK.Nar t (narB t i) := by
  refine TK.Nar.of rfl (fun _ _ => rfl) fun k hk => ?_
  have h2 := hv.2.2 i hi
  unfold TK.okT spanOk at h2
  unfold narB
  simp only
  by_cases c : k = i
  · subst c
    rw [if_pos rfl]
    omega
  · rw [if_neg c]
    omega
theorem turned_valid {t : TK} (hv : t.Valid) : t.turned.Valid := by
  refine ⟨hv.1, hv.2.1, fun k hk => ?_⟩
  have h1 := hv.2.2 k hk
  unfold TK.okT at h1
  unfold TK.okT TK.turned
  simp only
  exact ⟨by omega, h1.2⟩
/-- Does all fit, so many minutes later? -/
def fitN (t : TK) (d : Int) : Nat → Bool
  | 0 => true
  | k + 1 => bif fitN t d k then decide ((if t.dh k > t.bh k then t.dh k else t.bh k) + d ≤ 240) else false
theorem fitN_all {t : TK} {d : Int} : ∀ {n : Nat}, fitN t d n = true → ∀ k, k < n → t.bh k + d ≤ 240 ∧ t.dh k + d ≤ 240
  | 0, _, k, hk => absurd hk (Nat.not_lt_zero k)
  | n + 1, h, k, hk => by
    rw [fitN] at h
    cases h0 : fitN t d n with
    | false => rw [h0] at h; cases h
    | true =>
      rw [h0] at h
      rcases Nat.lt_succ_iff_lt_or_eq.1 hk with c | rfl
      · exact fitN_all h0 k c
      · have h2 : (if t.dh k > t.bh k then t.dh k else t.bh k) + d ≤ 240 := of_decide_eq_true h
        split at h2 <;> omega
theorem later_valid {t : TK} (hv : t.Valid) {d : Int} (hd : 0 ≤ d) (h : fitN t d t.n = true) : (t.later d).Valid := by
  refine ⟨hv.1, hv.2.1, fun k hk => ?_⟩
  have h1 := hv.2.2 k hk
  have h2 := fitN_all h k hk
  unfold TK.okT spanOk at h1
  unfold TK.okT spanOk TK.later
  simp only
  omega
end Go.Proofs.Ytioajogaghgipaa
/-
  TicketMore: no argument is changed.
-/
namespace Go.Proofs.Ytioajogaghgipaa
open Go Go.Sy Tic
set_option linter.unusedSimpArgs false
set_option maxRecDepth 100000
set_option maxHeartbeats 4000000
attribute [local irreducible] CallP CodeP Ent YieldP
set_option maxHeartbeats 16000000
-- fast: YtioajogaghgipaaDd
noncomputable def T11g (N c : Nat) : Tm := mkT [] [(4, .ptr 1 0), (20, .slice 2 5 0 N c)] 0 (List.replicate 565 none)
def H11g (t : TK) (N c : Nat) : SHeap := TH t ++ [some (.cells (tb t)), some (.arr 5 N c (TF t))]
theorem seg11g (t : TK) (hv : t.Valid) (N c : Nat) (hN : N = t.n) : CodeP Try.prog none 1 (sufC Try.f11 19) ⟨T11g N c, H11g t N c, []⟩ (KRet E Try.f11 1 (.bool true) (TH t)) := by
  have hn := hv.2.1
  subst hN
  refine codeP_XK E_ok 100 ?_
  (repeat' (first | exact aq | refine And.intro ?_ ?_ | exact trivial))
  refine loopP E_ok [4, 20, 549] (fun i : Nat => [(550, .int .i64 i)]) (fun _ _ => H11g t t.n c) (fun i => i ≤ t.n) (fun i => t.n - i) 0 (Nat.zero_le _) ?_ ?_
  · exact ent_tau [0, 1, 2] ⟨by (repeat' (first | exact fp | refine And.intro ?_ ?_)), by (repeat' (first | exact tm | refine And.intro ?_ ?_)), rfl⟩
  rintro i hi
  refine And.intro ?_ (And.intro (fun hlt => ?_) (fun hlt => ?_))
  · (repeat' (first | exact aq | refine And.intro ?_ ?_ | exact trivial))
  · have hlt' : i < t.n := by
      have := of_decide_eq_true hlt
      omega
    have ei := z1 i
    (repeat' (first | exact aq | refine And.intro ?_ ?_ | exact trivial))
    refine drawP E_ok [1, 2] pl11_57 (by kernel_rfl) ?_
    (repeat' (first | exact aq | refine And.intro ?_ ?_ | exact trivial))
    all_goals first | exact dd | skip
    all_goals intro hx
    all_goals first | (exfalso; simp at hx; done) | skip
    clear hx
    (repeat' (first | exact aq | refine And.intro ?_ ?_ | exact trivial))
    all_goals first | exact dd | skip
    refine ⟨i + 1, hlt', by omega, ?_⟩
    exact ent_tau [0, 1, 2] ⟨by (repeat' (first | exact fp | refine And.intro ?_ ?_)), by (repeat' (first | exact tm | refine And.intro ?_ ?_)), rfl⟩
  · (repeat' (first | exact aq | refine And.intro ?_ ?_ | exact trivial))
    refine t13.use [] ?_ trivial rfl
    (repeat' (first | exact aq | refine And.intro ?_ ?_ | exact trivial))
    exact ent_tau [0] ⟨by (repeat' (first | exact fp | refine And.intro ?_ ?_)), by (repeat' (first | exact tm | refine And.intro ?_ ?_)), rfl⟩
end Go.Proofs.Ytioajogaghgipaa
/-
  TicketMore: what is told of other tickets is compared.
-/
namespace Go.Proofs.Ytioajogaghgipaa
open Go Go.Sy Tic
set_option linter.unusedSimpArgs false
set_option maxRecDepth 100000
set_option maxHeartbeats 4000000
attribute [local irreducible] CallP CodeP Ent YieldP
set_option maxHeartbeats 32000000
-- fast: YtioajogaghgipaaDd
theorem min_nil {t : TK} (hv : t.Valid) (h0 : t.trs = []) (i : Nat) (hi : i < t.n) : minT t i = (((0, 0), (0, 0)), 10) := by
  unfold minT
  rw [if_neg (by simpa using hv), if_neg (by rw [inI_iff.2 ⟨by omega, by omega⟩]; decide), if_pos h0]
theorem turn_nil {t : TK} (hv : t.Valid) (h0 : t.trs = []) (i : Nat) (hi : i < t.n) : turnT t i = (0, 10) := by
  unfold turnT
  rw [if_neg (by simpa using hv), if_neg (by rw [inI_iff.2 ⟨by omega, by omega⟩]; decide), if_pos h0]
theorem pas_nil {t : TK} (hv : t.Valid) (h0 : t.trs = []) (i : Nat) (hi : i < t.n) : pasT t i = (0, 0, 10) := by
  unfold pasT
  rw [if_neg (by simpa using hv), if_neg (by rw [inI_iff.2 ⟨by omega, by omega⟩]; decide), if_pos h0]
theorem sp_nil {t : TK} (hv : t.Valid) (h0 : t.trs = []) {s : Int × Int} : spT t s = (0, 0, 10) := by
  unfold spT
  rw [if_neg (by simpa using hv), if_pos h0]
theorem who_nil {t : TK} (hv : t.Valid) (h0 : t.trs = []) (m : Int) (hm : 0 ≤ m ∧ m ≤ 240) : whoT t m = (0, false, 10) := by
  unfold whoT
  rw [if_neg (by simpa using hv), if_neg (by rw [inI_iff.2 hm]; decide), if_pos h0]
theorem fre_nil {t : TK} (hv : t.Valid) (h0 : t.trs = []) (h m : Int) (hh : 0 ≤ h ∧ h ≤ t.huts - 1) (hm : 0 ≤ m ∧ m ≤ 240) : freT t h m = (0, 10) := by
  unfold freT
  rw [if_neg (by simpa using hv), if_neg (by rw [inI_iff.2 hh, inI_iff.2 hm]; decide), if_pos h0]
/-! ### Contracts for tickets that are made -/
section
variable (q : TK) (hq : q.Valid) (hb : q.b = true)
include hq hb
theorem q14 (i : Nat) : CallP Try.prog 14 [.agg [.int .i64 q.huts, .osl true 0 5 q.n q.cap], .int .i64 i] (TH q) (Ret (.tup [.agg [.int .i64 (minT q i).1.1.1, .int .i64 (minT q i).1.1.2], .agg [.int .i64 (minT q i).1.2.1, .int .i64 (minT q i).1.2.2], .int .i64 (minT q i).2]) (TH q)) := by
  have c := t14 q (by have := hq.2.1; omega) ⟨by have := hq.1; omega, by have := hq.1; omega⟩ i
  unfold TA at c
  rw [hb] at c
  exact c
theorem q16 (i : Nat) : CallP Try.prog 16 [.agg [.int .i64 q.huts, .osl true 0 5 q.n q.cap], .int .i64 i] (TH q) (Ret (.tup [.int .i64 (turnT q i).1, .int .i64 (turnT q i).2]) (TH q)) := by
  have c := t16 q (by have := hq.2.1; omega) ⟨by have := hq.1; omega, by have := hq.1; omega⟩ i
  unfold TA at c
  rw [hb] at c
  exact c
theorem q18 (i : Nat) : CallP Try.prog 18 [.agg [.int .i64 q.huts, .osl true 0 5 q.n q.cap], .int .i64 i] (TH q) (Ret (.tup [.int .i64 (pasT q i).1, .int .i64 (pasT q i).2.1, .int .i64 (pasT q i).2.2]) (TH q)) := by
  have c := t18 q (by have := hq.2.1; omega) ⟨by have := hq.1; omega, by have := hq.1; omega⟩ i
  unfold TA at c
  rw [hb] at c
  exact c
theorem q24 : CallP Try.prog 24 [.agg [.int .i64 q.huts, .osl true 0 5 q.n q.cap]] (TH q) (Ret (.tup [.agg [.int .i64 (spT q q.waits).1, .int .i64 (spT q q.waits).2.1], .int .i64 (spT q q.waits).2.2]) (TH q)) := by
  have c := t24 q (by have := hq.2.1; omega) ⟨by have := hq.1; omega, by have := hq.1; omega⟩
  unfold TA at c
  rw [hb] at c
  exact c
theorem q28 : CallP Try.prog 28 [.agg [.int .i64 q.huts, .osl true 0 5 q.n q.cap]] (TH q) (Ret (.tup [.agg [.int .i64 (spT q q.wrong).1, .int .i64 (spT q q.wrong).2.1], .int .i64 (spT q q.wrong).2.2]) (TH q)) := by
  have c := t28 q (by have := hq.2.1; omega) ⟨by have := hq.1; omega, by have := hq.1; omega⟩
  unfold TA at c
  rw [hb] at c
  exact c
theorem q20 (m : Int) : CallP Try.prog 20 [.agg [.int .i64 q.huts, .osl true 0 5 q.n q.cap], .int .i64 m] (TH q) (Ret (.tup [.int .i64 (whoT q m).1, .bool (whoT q m).2.1, .int .i64 (whoT q m).2.2]) (TH q)) := by
  have c := t20 q (by have := hq.2.1; omega) ⟨by have := hq.1; omega, by have := hq.1; omega⟩ m
  unfold TA at c
  rw [hb] at c
  exact c
theorem q22 (h m : Int) : CallP Try.prog 22 [.agg [.int .i64 q.huts, .osl true 0 5 q.n q.cap], .int .i64 h, .int .i64 m] (TH q) (Ret (.tup [.int .i64 (freT q h m).1, .int .i64 (freT q h m).2]) (TH q)) := by
  have c := t22 q (by have := hq.2.1; omega) ⟨by have := hq.1; omega, by have := hq.1; omega⟩ h m
  unfold TA at c
  rw [hb] at c
  exact c
end
theorem t45 (a b c d : Int) (h1 : c ≤ a) (h2 : b ≤ d) : CallP Try.prog 45 [.agg [.int .i64 a, .int .i64 b], .agg [.int .i64 c, .int .i64 d]] [] (Ret (.bool true) []) := by
  have e1 : decide (a ≥ c) = true := decide_eq_true h1
  have e2 : decide (b ≤ d) = true := decide_eq_true h2
  refine callR (E := E) E_ok Try.func45 rfl ?_
  (repeat' (first | exact aq | refine And.intro ?_ ?_ | exact trivial))
  all_goals first | exact dd | skip
  refine ent_tau [] ⟨by (repeat' (first | exact fp | refine And.intro ?_ ?_)), ⟨rfl, ?_, trivial⟩, rfl⟩
  refine congrArg SV.bool ?_
  rw [e1, e2]
  rfl
/-- What is told of the tickets themselves. -/
structure MV where
  a : Int × Int
  b : Int × Int
  e : Int
  n : Int
  su : Nat
  pe : Nat
  w : Int × Int
  r : Int × Int
  f : Int
  s : Nat
  nb : Bool
noncomputable def T11f (i : Nat) (m d : Int) (fits : Bool) (N c : Nat) (v : MV) : Tm := mkT [] [(4, .ptr 1 0), (9, .int .i64 i), (10, .int .i64 m), (11, .int .i64 d), (12, .ptr 2 0), (13, .ptr 3 0), (14, .ptr 4 0), (17, .bool fits), (20, .slice 8 5 0 N c), (21, .fn (.func 45) [] []), (22, .ptr 9 0), (23, .ptr 10 0), (24, .int .i64 v.e), (25, .int .i64 v.n), (27, .int .i64 v.su), (28, .int .i64 v.pe), (30, .ptr 11 0), (32, .ptr 12 0), (34, .int .i64 v.f), (35, .int .i64 v.e), (36, .int .i64 v.s), (37, .bool v.nb), (38, .int .i64 v.e)] 0 (List.replicate 565 none)
def H11f (t x y z : TK) (N c : Nat) (v : MV) : SHeap := TH t ++ [some (.cells (tb t)), some (.cells [.int .i64 x.huts, .slice 5 5 0 x.n x.cap]), some (.cells [.int .i64 y.huts, .slice 6 5 0 y.n y.cap]), some (.cells [.int .i64 z.huts, .slice 7 5 0 z.n z.cap]),
  some (.arr 5 x.n x.cap (TF x)), some (.arr 5 y.n y.cap (TF y)), some (.arr 5 z.n z.cap (TF z)), some (.arr 5 N c (TF t)), some (.cells [.int .i64 v.a.1, .int .i64 v.a.2]), some (.cells [.int .i64 v.b.1, .int .i64 v.b.2]), some (.cells [.int .i64 v.w.1, .int .i64 v.w.2]), some (.cells [.int .i64 v.r.1, .int .i64 v.r.2])]
def H11l (t x y z : TK) (N c : Nat) (v : MV) : SHeap := H11f t x y z N c v ++ [some (.arr 2 3 3 fun k => [[.int .i64 x.huts, .slice 5 5 0 x.n x.cap], [.int .i64 y.huts, .slice 6 5 0 y.n y.cap], [.int .i64 z.huts, .slice 7 5 0 z.n z.cap]].getD k [])]
theorem three' {P : Nat → Prop} (h0 : P 0) (h1 : P 1) (h2 : P 2) : ∀ k, k < 3 → P k
  | 0, _ => h0
  | 1, _ => h1
  | 2, _ => h2
  | k + 3, h => absurd h (by omega)

def mvN : MV := ⟨(0, 0), (0, 0), 10, 0, 0, 0, (0, 0), (0, 0), 0, 0, false⟩
theorem seg11n (t : TK) (hv : t.Valid) (x y z : TK) (hxv : x.Valid) (hxb : x.b = true) (hx0 : x.trs = []) (hyv : y.Valid) (hyb : y.b = true) (hy0 : y.trs = []) (fits : Bool) (hzv : fits = true → z.Valid) (hzb : z.b = true) (hz0 : fits = true → z.trs = [])
    (i : Nat) (hxi : i < x.n) (hyi : i < y.n) (hzi : i < z.n) (m d : Int) (N c : Nat) (hN : N = t.n) :
    CodeP Try.prog none 1 (sufC Try.f11 18) ⟨T11f i m d fits N c mvN, H11f t x y z N c mvN, []⟩ (KRet E Try.f11 1 (.bool true) (TH t)) := by
  refine codeP_XK E_ok 1 ?_
  (repeat' (first | exact aq | refine And.intro ?_ ?_ | exact trivial))
  all_goals first | exact dd | skip
  refine loopP E_ok [4, 9, 10, 11, 17, 20, 21, 22, 23, 24, 25, 27, 28, 30, 32, 34, 35, 36, 37, 38, 285, 286] (fun j : Nat => [(287, .int .i64 j)]) (fun _ _ => H11l t x y z N c mvN) (fun j => j ≤ 3) (fun j => 3 - j) 0 (Nat.zero_le _) ?_ ?_
  · refine ent_tau [0, 1, 2, 3, 4, 5, 6, 7, 8, 9, 10, 11, 12, 13] ⟨?_, by (repeat' (first | exact tm | refine And.intro ?_ ?_)), rfl⟩
    (repeat' (first | exact fp | refine And.intro ?_ ?_))
    all_goals exact three' rfl rfl rfl
  rintro j hj
  refine And.intro ?_ (And.intro (fun hlj => ?_) (fun hlj => ?_))
  · (repeat' (first | exact aq | refine And.intro ?_ ?_ | exact trivial))
  · have hlj' : j < 3 := by
      have := of_decide_eq_true hlj
      omega
    match j, hlj' with
    | 0, _ =>
      have c14 := q14 x hxv hxb i
      rw [min_nil hxv hx0 i (by omega)] at c14
      have c16 := q16 x hxv hxb i
      rw [turn_nil hxv hx0 i (by omega)] at c16
      have c18 := q18 x hxv hxb i
      rw [pas_nil hxv hx0 i (by omega)] at c18
      have c24 := q24 x hxv hxb
      rw [sp_nil hxv hx0] at c24
      have c28 := q28 x hxv hxb
      rw [sp_nil hxv hx0] at c28
      dsimp only at c14 c16 c18 c24 c28
      (repeat' (first | exact aq | refine And.intro ?_ ?_ | exact trivial))
      all_goals first | exact dd | skip
      all_goals (repeat' (first | exact aq | refine And.intro ?_ ?_ | exact trivial))
      all_goals first | exact dd | skip
      all_goals intro h1
      all_goals first | exact absurd h1 (by decide) | (cases h1; done) | skip
      (repeat' (first | exact aq | refine And.intro ?_ ?_ | exact trivial))
      all_goals first | exact dd | skip
      refine CallP.argsD (args' := [.agg [.int .i64 x.huts, .osl true 5 5 x.n x.cap], .int .i64 i]) (fun η => by simp [denL, den]) ?_
      refine c14.use [5] ?_ (by (repeat' (first | exact fp | refine And.intro ?_ ?_))) rfl
      (repeat' (first | exact aq | refine And.intro ?_ ?_ | exact trivial))
      all_goals first | exact dd | skip
      refine CallP.argsD (args' := [.agg [.int .i64 x.huts, .osl true 5 5 x.n x.cap], .int .i64 i]) (fun η => by simp [denL, den]) ?_
      refine c16.use [5] ?_ (by (repeat' (first | exact fp | refine And.intro ?_ ?_))) rfl
      (repeat' (first | exact aq | refine And.intro ?_ ?_ | exact trivial))
      all_goals first | exact dd | skip
      refine CallP.argsD (args' := [.agg [.int .i64 x.huts, .osl true 5 5 x.n x.cap], .int .i64 i]) (fun η => by simp [denL, den]) ?_
      refine c18.use [5] ?_ (by (repeat' (first | exact fp | refine And.intro ?_ ?_))) rfl
      (repeat' (first | exact aq | refine And.intro ?_ ?_ | exact trivial))
      all_goals first | exact dd | skip
      refine CallP.argsD (args' := [.agg [.int .i64 x.huts, .osl true 5 5 x.n x.cap]]) (fun η => by simp [denL, den]) ?_
      refine c24.use [5] ?_ (by (repeat' (first | exact fp | refine And.intro ?_ ?_))) rfl
      (repeat' (first | exact aq | refine And.intro ?_ ?_ | exact trivial))
      all_goals first | exact dd | skip
      refine CallP.argsD (args' := [.agg [.int .i64 x.huts, .osl true 5 5 x.n x.cap]]) (fun η => by simp [denL, den]) ?_
      refine c28.use [5] ?_ (by (repeat' (first | exact fp | refine And.intro ?_ ?_))) rfl
      all_goals (repeat' (first | exact aq | refine And.intro ?_ ?_ | exact trivial))
      all_goals first | exact dd | skip
      all_goals intro h2
      all_goals first | exact absurd h2 (by decide) | (cases h2; done) | skip
      all_goals (repeat' (first | exact aq | refine And.intro ?_ ?_ | exact trivial))
      all_goals first | exact dd | skip
      all_goals intro h3
      all_goals first | exact absurd h3 (by decide) | (cases h3; done) | skip
      (repeat' (first | exact aq | refine And.intro ?_ ?_ | exact trivial))
      all_goals first | exact dd | skip
      refine ⟨0 + 1, by omega, by omega, ?_⟩
      refine ent_tau [0, 1, 2, 3, 4, 5, 6, 7, 8, 9, 10, 11, 12, 13] ⟨?_, by (repeat' (first | exact tm | refine And.intro ?_ ?_)), rfl⟩
      (repeat' (first | exact fp | refine And.intro ?_ ?_))
      all_goals exact three' rfl rfl rfl
    | 1, _ =>
      have c14 := q14 y hyv hyb i
      rw [min_nil hyv hy0 i (by omega)] at c14
      have c16 := q16 y hyv hyb i
      rw [turn_nil hyv hy0 i (by omega)] at c16
      have c18 := q18 y hyv hyb i
      rw [pas_nil hyv hy0 i (by omega)] at c18
      have c24 := q24 y hyv hyb
      rw [sp_nil hyv hy0] at c24
      have c28 := q28 y hyv hyb
      rw [sp_nil hyv hy0] at c28
      dsimp only at c14 c16 c18 c24 c28
      (repeat' (first | exact aq | refine And.intro ?_ ?_ | exact trivial))
      all_goals first | exact dd | skip
      all_goals (repeat' (first | exact aq | refine And.intro ?_ ?_ | exact trivial))
      all_goals first | exact dd | skip
      all_goals intro h1
      all_goals first | exact absurd h1 (by decide) | (cases h1; done) | skip
      (repeat' (first | exact aq | refine And.intro ?_ ?_ | exact trivial))
      all_goals first | exact dd | skip
      refine CallP.argsD (args' := [.agg [.int .i64 y.huts, .osl true 6 5 y.n y.cap], .int .i64 i]) (fun η => by simp [denL, den]) ?_
      refine c14.use [6] ?_ (by (repeat' (first | exact fp | refine And.intro ?_ ?_))) rfl
      (repeat' (first | exact aq | refine And.intro ?_ ?_ | exact trivial))
      all_goals first | exact dd | skip
      refine CallP.argsD (args' := [.agg [.int .i64 y.huts, .osl true 6 5 y.n y.cap], .int .i64 i]) (fun η => by simp [denL, den]) ?_
      refine c16.use [6] ?_ (by (repeat' (first | exact fp | refine And.intro ?_ ?_))) rfl
      (repeat' (first | exact aq | refine And.intro ?_ ?_ | exact trivial))
      all_goals first | exact dd | skip
      refine CallP.argsD (args' := [.agg [.int .i64 y.huts, .osl true 6 5 y.n y.cap], .int .i64 i]) (fun η => by simp [denL, den]) ?_
      refine c18.use [6] ?_ (by (repeat' (first | exact fp | refine And.intro ?_ ?_))) rfl
      (repeat' (first | exact aq | refine And.intro ?_ ?_ | exact trivial))
      all_goals first | exact dd | skip
      refine CallP.argsD (args' := [.agg [.int .i64 y.huts, .osl true 6 5 y.n y.cap]]) (fun η => by simp [denL, den]) ?_
      refine c24.use [6] ?_ (by (repeat' (first | exact fp | refine And.intro ?_ ?_))) rfl
      (repeat' (first | exact aq | refine And.intro ?_ ?_ | exact trivial))
      all_goals first | exact dd | skip
      refine CallP.argsD (args' := [.agg [.int .i64 y.huts, .osl true 6 5 y.n y.cap]]) (fun η => by simp [denL, den]) ?_
      refine c28.use [6] ?_ (by (repeat' (first | exact fp | refine And.intro ?_ ?_))) rfl
      all_goals (repeat' (first | exact aq | refine And.intro ?_ ?_ | exact trivial))
      all_goals first | exact dd | skip
      all_goals intro h2
      all_goals first | exact absurd h2 (by decide) | (cases h2; done) | skip
      all_goals (repeat' (first | exact aq | refine And.intro ?_ ?_ | exact trivial))
      all_goals first | exact dd | skip
      all_goals intro h3
      all_goals first | exact absurd h3 (by decide) | (cases h3; done) | skip
      (repeat' (first | exact aq | refine And.intro ?_ ?_ | exact trivial))
      all_goals first | exact dd | skip
      refine ⟨1 + 1, by omega, by omega, ?_⟩
      refine ent_tau [0, 1, 2, 3, 4, 5, 6, 7, 8, 9, 10, 11, 12, 13] ⟨?_, by (repeat' (first | exact tm | refine And.intro ?_ ?_)), rfl⟩
      (repeat' (first | exact fp | refine And.intro ?_ ?_))
      all_goals exact three' rfl rfl rfl
    | 2, _ =>
      cases fits with
      | false =>
        (repeat' (first | exact aq | refine And.intro ?_ ?_ | exact trivial))
        all_goals first | exact dd | skip
        all_goals (repeat' (first | exact aq | refine And.intro ?_ ?_ | exact trivial))
        all_goals first | exact dd | skip
        all_goals intro h1
        all_goals first | exact absurd h1 (by decide) | (cases h1; done) | skip
        (repeat' (first | exact aq | refine And.intro ?_ ?_ | exact trivial))
        all_goals first | exact dd | skip
        refine ⟨2 + 1, by omega, by omega, ?_⟩
        refine ent_tau [0, 1, 2, 3, 4, 5, 6, 7, 8, 9, 10, 11, 12, 13] ⟨?_, by (repeat' (first | exact tm | refine And.intro ?_ ?_)), rfl⟩
        (repeat' (first | exact fp | refine And.intro ?_ ?_))
        all_goals exact three' rfl rfl rfl
      | true =>
        have hzv := hzv rfl
        have hz0 := hz0 rfl
        have c14 := q14 z hzv hzb i
        rw [min_nil hzv hz0 i (by omega)] at c14
        have c16 := q16 z hzv hzb i
        rw [turn_nil hzv hz0 i (by omega)] at c16
        have c18 := q18 z hzv hzb i
        rw [pas_nil hzv hz0 i (by omega)] at c18
        have c24 := q24 z hzv hzb
        rw [sp_nil hzv hz0] at c24
        have c28 := q28 z hzv hzb
        rw [sp_nil hzv hz0] at c28
        dsimp only at c14 c16 c18 c24 c28
        (repeat' (first | exact aq | refine And.intro ?_ ?_ | exact trivial))
        all_goals first | exact dd | skip
        all_goals (repeat' (first | exact aq | refine And.intro ?_ ?_ | exact trivial))
        all_goals first | exact dd | skip
        all_goals intro h1
        all_goals first | exact absurd h1 (by decide) | (cases h1; done) | skip
        (repeat' (first | exact aq | refine And.intro ?_ ?_ | exact trivial))
        all_goals first | exact dd | skip
        refine CallP.argsD (args' := [.agg [.int .i64 z.huts, .osl true 7 5 z.n z.cap], .int .i64 i]) (fun η => by simp [denL, den]) ?_
        refine c14.use [7] ?_ (by (repeat' (first | exact fp | refine And.intro ?_ ?_))) rfl
        (repeat' (first | exact aq | refine And.intro ?_ ?_ | exact trivial))
        all_goals first | exact dd | skip
        refine CallP.argsD (args' := [.agg [.int .i64 z.huts, .osl true 7 5 z.n z.cap], .int .i64 i]) (fun η => by simp [denL, den]) ?_
        refine c16.use [7] ?_ (by (repeat' (first | exact fp | refine And.intro ?_ ?_))) rfl
        (repeat' (first | exact aq | refine And.intro ?_ ?_ | exact trivial))
        all_goals first | exact dd | skip
        refine CallP.argsD (args' := [.agg [.int .i64 z.huts, .osl true 7 5 z.n z.cap], .int .i64 i]) (fun η => by simp [denL, den]) ?_
        refine c18.use [7] ?_ (by (repeat' (first | exact fp | refine And.intro ?_ ?_))) rfl
        (repeat' (first | exact aq | refine And.intro ?_ ?_ | exact trivial))
        all_goals first | exact dd | skip
        refine CallP.argsD (args' := [.agg [.int .i64 z.huts, .osl true 7 5 z.n z.cap]]) (fun η => by simp [denL, den]) ?_
        refine c24.use [7] ?_ (by (repeat' (first | exact fp | refine And.intro ?_ ?_))) rfl
        (repeat' (first | exact aq | refine And.intro ?_ ?_ | exact trivial))
        all_goals first | exact dd | skip
        refine CallP.argsD (args' := [.agg [.int .i64 z.huts, .osl true 7 5 z.n z.cap]]) (fun η => by simp [denL, den]) ?_
        refine c28.use [7] ?_ (by (repeat' (first | exact fp | refine And.intro ?_ ?_))) rfl
        all_goals (repeat' (first | exact aq | refine And.intro ?_ ?_ | exact trivial))
        all_goals first | exact dd | skip
        all_goals intro h2
        all_goals first | exact absurd h2 (by decide) | (cases h2; done) | skip
        all_goals (repeat' (first | exact aq | refine And.intro ?_ ?_ | exact trivial))
        all_goals first | exact dd | skip
        all_goals intro h3
        all_goals first | exact absurd h3 (by decide) | (cases h3; done) | skip
        (repeat' (first | exact aq | refine And.intro ?_ ?_ | exact trivial))
        all_goals first | exact dd | skip
        refine ⟨2 + 1, by omega, by omega, ?_⟩
        refine ent_tau [0, 1, 2, 3, 4, 5, 6, 7, 8, 9, 10, 11, 12, 13] ⟨?_, by (repeat' (first | exact tm | refine And.intro ?_ ?_)), rfl⟩
        (repeat' (first | exact fp | refine And.intro ?_ ?_))
        all_goals exact three' rfl rfl rfl
  · (repeat' (first | exact aq | refine And.intro ?_ ?_ | exact trivial))
    refine CodeP.part (seg11g t hv N c hN) ?_
    exact ent_tau [0, 1, 8] ⟨by (repeat' (first | exact fp | refine And.intro ?_ ?_)), by (repeat' (first | exact tm | refine And.intro ?_ ?_)), rfl⟩
end Go.Proofs.Ytioajogaghgipaa
/-
  TicketMore: what is told of other tickets is compared, where there are truths.
-/
namespace Go.Proofs.Ytioajogaghgipaa
open Go Go.Sy Tic
set_option linter.unusedSimpArgs false
set_option maxRecDepth 100000
set_option maxHeartbeats 4000000
attribute [local irreducible] CallP CodeP Ent YieldP
set_option maxHeartbeats 32000000
-- fast: YtioajogaghgipaaDd
noncomputable def mvB (t : TK) (i : Nat) (m : Int) : MV := ⟨t.bought i, t.door i, 0, t.turn i, t.surely i, t.perhaps i, t.waits, t.wrong, t.freeT (t.hut i) m, t.whose m, t.nobody m⟩
/-- The same is told of them. -/
structure SameT (t y : TK) (i : Nat) (m : Int) : Prop where
  ne : y.trs ≠ []
  bo : y.bought i = t.bought i
  dr : y.door i = t.door i
  tu : y.turn i = t.turn i
  su : y.surely i = t.surely i
  pe : y.perhaps i = t.perhaps i
  wa : y.waits = t.waits
  wr : y.wrong = t.wrong
  fr : y.freeT (y.hut i) m = t.freeT (t.hut i) m
  wh : y.whose m = t.whose m
  nb : y.nobody m = t.nobody m
structure LateT (t z : TK) (i : Nat) (d : Int) : Prop where
  ne : z.trs ≠ []
  bo : z.bought i = ((t.bought i).1 + d, (t.bought i).2 + d)
  dr : z.door i = ((t.door i).1 + d, (t.door i).2 + d)
  tu : z.turn i = t.turn i
  su : z.surely i = t.surely i
  pe : z.perhaps i = t.perhaps i
  wa : z.waits = t.waits
  wr : z.wrong = t.wrong
theorem nar_turn {t x : TK} (h : TK.Nar t x) (hne : x.trs ≠ []) (i : Nat) : (bif !decide (t.turn i = 1) then !decide (x.turn i = t.turn i) else false) = false := by
  by_cases c : t.turn i = 1
  · rw [decide_eq_true c]; rfl
  · rw [decide_eq_true (h.turn hne c)]; cases decide (t.turn i = 1) <;> rfl
theorem sdiff_zero {a b : Nat} (ha : a < 2 ^ 5) (h : ∀ o, a.testBit o = true → b.testBit o = true) : decide (bitOp .andNot .i64 ((a : Nat) : Int) ((b : Nat) : Int) = 0) = true := by
  have e : sdiff a b = 0 := by
    refine Nat.eq_of_testBit_eq fun o => ?_
    rw [Nat.zero_testBit]
    by_cases c : o < 64
    · rw [sdiff_bit c]
      cases hs : a.testBit o with
      | false => rfl
      | true => rw [h o hs]; rfl
    · exact Nat.testBit_lt_two_pow (Nat.lt_of_lt_of_le (sdiff_lt (b := b) ha) (Nat.pow_le_pow_right (by decide) (by omega)))
  rw [andNot64 (Nat.lt_of_lt_of_le ha (by decide)), e]
  rfl
theorem bo_rng {t : TK} (hv : t.Valid) (hne : t.trs ≠ []) {i : Nat} (hi : i < t.n) : (0 ≤ (t.bought i).1 ∧ (t.bought i).1 ≤ 240) ∧ 0 ≤ (t.bought i).2 ∧ (t.bought i).2 ≤ 240 := by
  have ok := hv.2.2 i hi
  obtain ⟨x, hx, e1⟩ := TK.hull_lo (TK.bought_is hne i)
  obtain ⟨y, hy, e2⟩ := TK.hull_hi (TK.bought_is hne i)
  have p1 := (TK.mem_trs.1 hx).2.1 i hi
  have p2 := (TK.mem_trs.1 hy).2.1 i hi
  unfold TK.okT spanOk at ok
  unfold TK.okP at p1 p2
  omega
theorem dr_rng {t : TK} (hv : t.Valid) (hne : t.trs ≠ []) {i : Nat} (hi : i < t.n) : (0 ≤ (t.door i).1 ∧ (t.door i).1 ≤ 240) ∧ 0 ≤ (t.door i).2 ∧ (t.door i).2 ≤ 240 := by
  have ok := hv.2.2 i hi
  obtain ⟨x, hx, e1⟩ := TK.hull_lo (TK.door_is hne i)
  obtain ⟨y, hy, e2⟩ := TK.hull_hi (TK.door_is hne i)
  have p1 := (TK.mem_trs.1 hx).2.1 i hi
  have p2 := (TK.mem_trs.1 hy).2.1 i hi
  unfold TK.okT spanOk at ok
  unfold TK.okP at p1 p2
  omega
theorem seg11v (t : TK) (hv : t.Valid) (hne : t.trs ≠ []) (x y z : TK) (hxv : x.Valid) (hxb : x.b = true) (hxn : TK.Nar t x) (hyv : y.Valid) (hyb : y.b = true) (fits : Bool) (hzv : fits = true → z.Valid) (hzb : z.b = true)
    (i : Nat) (hi : i < t.n) (hxi : i < x.n) (hyi : i < y.n) (hzi : i < z.n) (m d : Int) (hm : 0 ≤ m ∧ m ≤ 240) (hd : 0 ≤ d ∧ d ≤ 60) (sy : SameT t y i m) (sz : fits = true → LateT t z i d) (N c : Nat) (hN : N = t.n) :
    CodeP Try.prog none 1 (sufC Try.f11 18) ⟨T11f i m d fits N c (mvB t i m), H11f t x y z N c (mvB t i m), []⟩ (KRet E Try.f11 1 (.bool true) (TH t)) := by
  have ei := z1 i
  have hn5 := hv.2.1
  have bg1 : (0 ≤ (mvB t i m).a.1 ∧ (mvB t i m).a.1 ≤ 240) ∧ 0 ≤ (mvB t i m).a.2 ∧ (mvB t i m).a.2 ≤ 240 := bo_rng hv hne hi
  have bg2 : (0 ≤ (mvB t i m).b.1 ∧ (mvB t i m).b.1 ≤ 240) ∧ 0 ≤ (mvB t i m).b.2 ∧ (mvB t i m).b.2 ≤ 240 := dr_rng hv hne hi
  refine codeP_XK E_ok 1 ?_
  (repeat' (first | exact aq | refine And.intro ?_ ?_ | exact trivial))
  all_goals first | exact dd | skip
  refine loopP E_ok [4, 9, 10, 11, 17, 20, 21, 22, 23, 24, 25, 27, 28, 30, 32, 34, 35, 36, 37, 38, 285, 286] (fun j : Nat => [(287, .int .i64 j)]) (fun _ _ => H11l t x y z N c (mvB t i m)) (fun j => j ≤ 3) (fun j => 3 - j) 0 (Nat.zero_le _) ?_ ?_
  · refine ent_tau [0, 1, 2, 3, 4, 5, 6, 7, 8, 9, 10, 11, 12, 13] ⟨?_, by (repeat' (first | exact tm | refine And.intro ?_ ?_)), rfl⟩
    (repeat' (first | exact fp | refine And.intro ?_ ?_))
    all_goals exact three' rfl rfl rfl
  rintro j hj
  refine And.intro ?_ (And.intro (fun hlj => ?_) (fun hlj => ?_))
  · (repeat' (first | exact aq | refine And.intro ?_ ?_ | exact trivial))
  · have hlj' : j < 3 := by
      have := of_decide_eq_true hlj
      omega
    match j, hlj' with
    | 0, _ =>
      by_cases hx0 : x.trs = []
      · have c14 := q14 x hxv hxb i
        rw [min_nil hxv hx0 i (by omega)] at c14
        have c16 := q16 x hxv hxb i
        rw [turn_nil hxv hx0 i (by omega)] at c16
        have c18 := q18 x hxv hxb i
        rw [pas_nil hxv hx0 i (by omega)] at c18
        have c24 := q24 x hxv hxb
        rw [sp_nil hxv hx0] at c24
        have c28 := q28 x hxv hxb
        rw [sp_nil hxv hx0] at c28
        dsimp only at c14 c16 c18 c24 c28
        (repeat' (first | exact aq | refine And.intro ?_ ?_ | exact trivial))
        all_goals first | exact dd | skip
        all_goals (repeat' (first | exact aq | refine And.intro ?_ ?_ | exact trivial))
        all_goals first | exact dd | skip
        all_goals intro h1
        all_goals first | exact absurd h1 (by decide) | (cases h1; done) | skip
        (repeat' (first | exact aq | refine And.intro ?_ ?_ | exact trivial))
        all_goals first | exact dd | skip
        refine CallP.argsD (args' := [.agg [.int .i64 x.huts, .osl true 5 5 x.n x.cap], .int .i64 i]) (fun η => by simp [denL, den]) ?_
        refine c14.use [5] ?_ (by (repeat' (first | exact fp | refine And.intro ?_ ?_))) rfl
        (repeat' (first | exact aq | refine And.intro ?_ ?_ | exact trivial))
        all_goals first | exact dd | skip
        refine CallP.argsD (args' := [.agg [.int .i64 x.huts, .osl true 5 5 x.n x.cap], .int .i64 i]) (fun η => by simp [denL, den]) ?_
        refine c16.use [5] ?_ (by (repeat' (first | exact fp | refine And.intro ?_ ?_))) rfl
        (repeat' (first | exact aq | refine And.intro ?_ ?_ | exact trivial))
        all_goals first | exact dd | skip
        refine CallP.argsD (args' := [.agg [.int .i64 x.huts, .osl true 5 5 x.n x.cap], .int .i64 i]) (fun η => by simp [denL, den]) ?_
        refine c18.use [5] ?_ (by (repeat' (first | exact fp | refine And.intro ?_ ?_))) rfl
        (repeat' (first | exact aq | refine And.intro ?_ ?_ | exact trivial))
        all_goals first | exact dd | skip
        refine CallP.argsD (args' := [.agg [.int .i64 x.huts, .osl true 5 5 x.n x.cap]]) (fun η => by simp [denL, den]) ?_
        refine c24.use [5] ?_ (by (repeat' (first | exact fp | refine And.intro ?_ ?_))) rfl
        (repeat' (first | exact aq | refine And.intro ?_ ?_ | exact trivial))
        all_goals first | exact dd | skip
        refine CallP.argsD (args' := [.agg [.int .i64 x.huts, .osl true 5 5 x.n x.cap]]) (fun η => by simp [denL, den]) ?_
        refine c28.use [5] ?_ (by (repeat' (first | exact fp | refine And.intro ?_ ?_))) rfl
        all_goals (repeat' (first | exact aq | refine And.intro ?_ ?_ | exact trivial))
        all_goals first | exact dd | skip
        all_goals intro h2
        all_goals first | exact absurd h2 (by decide) | (cases h2; done) | skip
        all_goals (repeat' (first | exact aq | refine And.intro ?_ ?_ | exact trivial))
        all_goals first | exact dd | skip
        all_goals intro h3
        all_goals first | exact absurd h3 (by decide) | (cases h3; done) | skip
        (repeat' (first | exact aq | refine And.intro ?_ ?_ | exact trivial))
        all_goals first | exact dd | skip
        refine ⟨0 + 1, by omega, by omega, ?_⟩
        refine ent_tau [0, 1, 2, 3, 4, 5, 6, 7, 8, 9, 10, 11, 12, 13] ⟨?_, by (repeat' (first | exact tm | refine And.intro ?_ ?_)), rfl⟩
        (repeat' (first | exact fp | refine And.intro ?_ ?_))
        all_goals exact three' rfl rfl rfl
      · have c14 := q14 x hxv hxb i
        rw [min_is hxv hx0 i (by omega)] at c14
        have c16 := q16 x hxv hxb i
        rw [turn_is hxv hx0 i (by omega)] at c16
        have c18 := q18 x hxv hxb i
        rw [pas_is hxv hx0 i (by omega)] at c18
        have c24 := q24 x hxv hxb
        rw [sp_is hxv hx0] at c24
        have c28 := q28 x hxv hxb
        rw [sp_is hxv hx0] at c28
        dsimp only at c14 c16 c18 c24 c28
        have b1 := hxn.bought hx0 i
        have b2 := hxn.door hx0 i
        have b3 := hxn.waits hx0
        have b4 := hxn.wrong hx0
        have d1 : (bif !decide ((mvB t i m).n = 1) then !decide (x.turn i = (mvB t i m).n) else false) = false := nar_turn hxn hx0 i
        have d2 : decide (bitOp .andNot .i64 ((x.perhaps i : Nat) : Int) (((mvB t i m).pe : Nat) : Int) = 0) = true := sdiff_zero (Nat.lt_of_lt_of_le (TK.perhaps_lt (t := x) i) (Nat.pow_le_pow_right (by decide) hxv.2.1)) (fun o => hxn.perhaps (i := i) (o := o))
        have d3 : decide (bitOp .andNot .i64 (((mvB t i m).su : Nat) : Int) ((x.surely i : Nat) : Int) = 0) = true := sdiff_zero (Nat.lt_of_lt_of_le (TK.surely_lt (t := t) i) (Nat.pow_le_pow_right (by decide) hn5)) (fun o => hxn.surely (i := i) (o := o))
        (repeat' (first | exact aq | refine And.intro ?_ ?_ | exact trivial))
        all_goals first | exact dd | skip
        all_goals (repeat' (first | exact aq | refine And.intro ?_ ?_ | exact trivial))
        all_goals first | exact dd | skip
        all_goals intro h1
        all_goals first | exact absurd h1 (by decide) | (cases h1; done) | skip
        (repeat' (first | exact aq | refine And.intro ?_ ?_ | exact trivial))
        all_goals first | exact dd | skip
        refine CallP.argsD (args' := [.agg [.int .i64 x.huts, .osl true 5 5 x.n x.cap], .int .i64 i]) (fun η => by simp [denL, den]) ?_
        refine c14.use [5] ?_ (by (repeat' (first | exact fp | refine And.intro ?_ ?_))) rfl
        (repeat' (first | exact aq | refine And.intro ?_ ?_ | exact trivial))
        all_goals first | exact dd | skip
        refine CallP.argsD (args' := [.agg [.int .i64 x.huts, .osl true 5 5 x.n x.cap], .int .i64 i]) (fun η => by simp [denL, den]) ?_
        refine c16.use [5] ?_ (by (repeat' (first | exact fp | refine And.intro ?_ ?_))) rfl
        (repeat' (first | exact aq | refine And.intro ?_ ?_ | exact trivial))
        all_goals first | exact dd | skip
        refine CallP.argsD (args' := [.agg [.int .i64 x.huts, .osl true 5 5 x.n x.cap], .int .i64 i]) (fun η => by simp [denL, den]) ?_
        refine c18.use [5] ?_ (by (repeat' (first | exact fp | refine And.intro ?_ ?_))) rfl
        (repeat' (first | exact aq | refine And.intro ?_ ?_ | exact trivial))
        all_goals first | exact dd | skip
        refine CallP.argsD (args' := [.agg [.int .i64 x.huts, .osl true 5 5 x.n x.cap]]) (fun η => by simp [denL, den]) ?_
        refine c24.use [5] ?_ (by (repeat' (first | exact fp | refine And.intro ?_ ?_))) rfl
        (repeat' (first | exact aq | refine And.intro ?_ ?_ | exact trivial))
        all_goals first | exact dd | skip
        refine CallP.argsD (args' := [.agg [.int .i64 x.huts, .osl true 5 5 x.n x.cap]]) (fun η => by simp [denL, den]) ?_
        refine c28.use [5] ?_ (by (repeat' (first | exact fp | refine And.intro ?_ ?_))) rfl
        all_goals (repeat' (first | exact aq | refine And.intro ?_ ?_ | exact trivial))
        all_goals first | exact dd | skip
        all_goals intro h2
        all_goals first | exact absurd h2 (by decide) | (cases h2; done) | skip
        all_goals (repeat' (first | exact aq | refine And.intro ?_ ?_ | exact trivial))
        all_goals first | exact dd | skip
        all_goals intro h3
        all_goals first | exact absurd h3 (by decide) | (cases h3; done) | skip
        (repeat' (first | exact aq | refine And.intro ?_ ?_ | exact trivial))
        all_goals first | exact dd | skip
        all_goals (repeat' (first | exact aq | refine And.intro ?_ ?_ | exact trivial))
        all_goals first | exact dd | skip
        all_goals intro h4
        all_goals first | exact absurd h4 (by decide) | (cases h4; done) | skip
        all_goals (repeat' (first | exact aq | refine And.intro ?_ ?_ | exact trivial))
        all_goals first | exact dd | skip
        all_goals intro h4b
        all_goals first | exact absurd h4b (by decide) | (cases h4b; done) | skip
        refine (t45 _ _ _ _ b1.1 b1.2).use [] ?_ (by (repeat' (first | exact fp | refine And.intro ?_ ?_))) rfl
        all_goals (repeat' (first | exact aq | refine And.intro ?_ ?_ | exact trivial))
        all_goals first | exact dd | skip
        all_goals intro h5
        all_goals first | exact absurd h5 (by decide) | (cases h5; done) | skip
        refine (t45 _ _ _ _ b2.1 b2.2).use [] ?_ (by (repeat' (first | exact fp | refine And.intro ?_ ?_))) rfl
        all_goals (repeat' (first | exact aq | refine And.intro ?_ ?_ | exact trivial))
        all_goals first | exact dd | skip
        all_goals intro h6
        all_goals first | (exfalso; (try rw [d1] at h6); (try rw [d2] at h6); (try rw [d3] at h6); exact Bool.noConfusion (show true = false from h6)) | (exfalso; (try rw [d1] at h6); (try rw [d2] at h6); (try rw [d3] at h6); exact Bool.noConfusion (show false = true from h6)) | skip
        refine (t45 _ _ _ _ b3.1 b3.2).use [] ?_ (by (repeat' (first | exact fp | refine And.intro ?_ ?_))) rfl
        all_goals (repeat' (first | exact aq | refine And.intro ?_ ?_ | exact trivial))
        all_goals first | exact dd | skip
        all_goals intro h7
        all_goals first | (exfalso; (try rw [d1] at h7); (try rw [d2] at h7); (try rw [d3] at h7); exact Bool.noConfusion (show true = false from h7)) | (exfalso; (try rw [d1] at h7); (try rw [d2] at h7); (try rw [d3] at h7); exact Bool.noConfusion (show false = true from h7)) | skip
        refine (t45 _ _ _ _ b4.1 b4.2).use [] ?_ (by (repeat' (first | exact fp | refine And.intro ?_ ?_))) rfl
        all_goals (repeat' (first | exact aq | refine And.intro ?_ ?_ | exact trivial))
        all_goals first | exact dd | skip
        all_goals intro h8
        all_goals first | (exfalso; (try rw [d1] at h8); (try rw [d2] at h8); (try rw [d3] at h8); exact Bool.noConfusion (show true = false from h8)) | (exfalso; (try rw [d1] at h8); (try rw [d2] at h8); (try rw [d3] at h8); exact Bool.noConfusion (show false = true from h8)) | skip
        (repeat' (first | exact aq | refine And.intro ?_ ?_ | exact trivial))
        all_goals first | exact dd | skip
        refine ⟨0 + 1, by omega, by omega, ?_⟩
        refine ent_tau [0, 1, 2, 3, 4, 5, 6, 7, 8, 9, 10, 11, 12, 13] ⟨?_, by (repeat' (first | exact tm | refine And.intro ?_ ?_)), rfl⟩
        (repeat' (first | exact fp | refine And.intro ?_ ?_))
        all_goals exact three' rfl rfl rfl
    | 1, _ =>
      have hy0 := sy.ne
      have c14 := q14 y hyv hyb i
      rw [min_is hyv hy0 i (by omega)] at c14
      have c16 := q16 y hyv hyb i
      rw [turn_is hyv hy0 i (by omega)] at c16
      have c18 := q18 y hyv hyb i
      rw [pas_is hyv hy0 i (by omega)] at c18
      have c24 := q24 y hyv hyb
      rw [sp_is hyv hy0] at c24
      have c28 := q28 y hyv hyb
      rw [sp_is hyv hy0] at c28
      dsimp only at c14 c16 c18 c24 c28
      rw [sy.bo, sy.dr] at c14
      rw [sy.tu] at c16
      rw [sy.su, sy.pe] at c18
      rw [sy.wa] at c24
      rw [sy.wr] at c28
      have yh := (hyv.2.2 i hyi).1
      have c20 := q20 y hyv hyb m
      rw [who_is hyv hy0 m hm, sy.wh, sy.nb] at c20
      have c22 := q22 y hyv hyb (y.hut (0 + ((i : Nat) : Int).toNat)) m
      rw [fre_is hyv hy0 _ m (by rw [ei]; exact yh) hm, show y.freeT (y.hut (0 + ((i : Nat) : Int).toNat)) m = t.freeT (t.hut i) m by rw [ei]; exact sy.fr] at c22
      dsimp only at c14 c16 c18 c24 c28 c20 c22
      (repeat' (first | exact aq | refine And.intro ?_ ?_ | exact trivial))
      all_goals first | exact dd | skip
      all_goals (repeat' (first | exact aq | refine And.intro ?_ ?_ | exact trivial))
      all_goals first | exact dd | skip
      all_goals intro h1
      all_goals first | exact absurd h1 (by decide) | (cases h1; done) | skip
      (repeat' (first | exact aq | refine And.intro ?_ ?_ | exact trivial))
      all_goals first | exact dd | skip
      refine CallP.argsD (args' := [.agg [.int .i64 y.huts, .osl true 6 5 y.n y.cap], .int .i64 i]) (fun η => by simp [denL, den]) ?_
      refine c14.use [6] ?_ (by (repeat' (first | exact fp | refine And.intro ?_ ?_))) rfl
      (repeat' (first | exact aq | refine And.intro ?_ ?_ | exact trivial))
      all_goals first | exact dd | skip
      refine CallP.argsD (args' := [.agg [.int .i64 y.huts, .osl true 6 5 y.n y.cap], .int .i64 i]) (fun η => by simp [denL, den]) ?_
      refine c16.use [6] ?_ (by (repeat' (first | exact fp | refine And.intro ?_ ?_))) rfl
      (repeat' (first | exact aq | refine And.intro ?_ ?_ | exact trivial))
      all_goals first | exact dd | skip
      refine CallP.argsD (args' := [.agg [.int .i64 y.huts, .osl true 6 5 y.n y.cap], .int .i64 i]) (fun η => by simp [denL, den]) ?_
      refine c18.use [6] ?_ (by (repeat' (first | exact fp | refine And.intro ?_ ?_))) rfl
      (repeat' (first | exact aq | refine And.intro ?_ ?_ | exact trivial))
      all_goals first | exact dd | skip
      refine CallP.argsD (args' := [.agg [.int .i64 y.huts, .osl true 6 5 y.n y.cap]]) (fun η => by simp [denL, den]) ?_
      refine c24.use [6] ?_ (by (repeat' (first | exact fp | refine And.intro ?_ ?_))) rfl
      (repeat' (first | exact aq | refine And.intro ?_ ?_ | exact trivial))
      all_goals first | exact dd | skip
      refine CallP.argsD (args' := [.agg [.int .i64 y.huts, .osl true 6 5 y.n y.cap]]) (fun η => by simp [denL, den]) ?_
      refine c28.use [6] ?_ (by (repeat' (first | exact fp | refine And.intro ?_ ?_))) rfl
      all_goals (repeat' (first | exact aq | refine And.intro ?_ ?_ | exact trivial))
      all_goals first | exact dd | skip
      all_goals intro h2
      all_goals first | exact absurd h2 (by decide) | (cases h2; done) | skip
      all_goals (repeat' (first | exact aq | refine And.intro ?_ ?_ | exact trivial))
      all_goals first | exact dd | skip
      all_goals intro h3
      all_goals first | exact absurd h3 (by decide) | (cases h3; done) | skip
      (repeat' (first | exact aq | refine And.intro ?_ ?_ | exact trivial))
      all_goals first | exact dd | skip
      all_goals (repeat' (first | exact aq | refine And.intro ?_ ?_ | exact trivial))
      all_goals first | exact dd | skip
      all_goals intro h4
      all_goals first | exact absurd h4 (by decide) | (cases h4; done) | skip
      all_goals (repeat' (first | exact aq | refine And.intro ?_ ?_ | exact trivial))
      all_goals first | exact dd | skip
      all_goals intro h5
      all_goals first | exact absurd h5 (by decide) | (cases h5; done) | skip
      (repeat' (first | exact aq | refine And.intro ?_ ?_ | exact trivial))
      refine drawP E_ok [6, 14] pl11_49 (by kernel_rfl) ?_
      (repeat' (first | exact aq | refine And.intro ?_ ?_ | exact trivial))
      all_goals first | exact dd | skip
      refine CallP.argsD (args' := [.agg [.int .i64 y.huts, .osl true 6 5 y.n y.cap], .int .i64 (y.hut (0 + ((i : Nat) : Int).toNat)), .int .i64 m]) (fun η => by simp [denL, den]) ?_
      refine c22.use [6] ?_ (by (repeat' (first | exact fp | refine And.intro ?_ ?_))) rfl
      (repeat' (first | exact aq | refine And.intro ?_ ?_ | exact trivial))
      all_goals first | exact dd | skip
      refine CallP.argsD (args' := [.agg [.int .i64 y.huts, .osl true 6 5 y.n y.cap], .int .i64 m]) (fun η => by simp [denL, den]) ?_
      refine c20.use [6] ?_ (by (repeat' (first | exact fp | refine And.intro ?_ ?_))) rfl
      (repeat' (first | exact aq | refine And.intro ?_ ?_ | exact trivial))
      all_goals first | exact dd | skip
      all_goals intro hx
      all_goals first | (exfalso; simp [mvB] at hx; done) | skip
      (repeat' (first | exact aq | refine And.intro ?_ ?_ | exact trivial))
      all_goals first | exact dd | skip
      refine ⟨1 + 1, by omega, by omega, ?_⟩
      refine ent_tau [0, 1, 2, 3, 4, 5, 6, 7, 8, 9, 10, 11, 12, 13] ⟨?_, by (repeat' (first | exact tm | refine And.intro ?_ ?_)), rfl⟩
      (repeat' (first | exact fp | refine And.intro ?_ ?_))
      all_goals exact three' rfl rfl rfl
    | 2, _ =>
      cases fits with
      | false =>
        (repeat' (first | exact aq | refine And.intro ?_ ?_ | exact trivial))
        all_goals first | exact dd | skip
        all_goals (repeat' (first | exact aq | refine And.intro ?_ ?_ | exact trivial))
        all_goals first | exact dd | skip
        all_goals intro h1
        all_goals first | exact absurd h1 (by decide) | (cases h1; done) | skip
        (repeat' (first | exact aq | refine And.intro ?_ ?_ | exact trivial))
        all_goals first | exact dd | skip
        refine ⟨2 + 1, by omega, by omega, ?_⟩
        refine ent_tau [0, 1, 2, 3, 4, 5, 6, 7, 8, 9, 10, 11, 12, 13] ⟨?_, by (repeat' (first | exact tm | refine And.intro ?_ ?_)), rfl⟩
        (repeat' (first | exact fp | refine And.intro ?_ ?_))
        all_goals exact three' rfl rfl rfl
      | true =>
        have hzv := hzv rfl
        have sz := sz rfl
        have hz0 := sz.ne
        have c14 := q14 z hzv hzb i
        rw [min_is hzv hz0 i (by omega)] at c14
        have c16 := q16 z hzv hzb i
        rw [turn_is hzv hz0 i (by omega)] at c16
        have c18 := q18 z hzv hzb i
        rw [pas_is hzv hz0 i (by omega)] at c18
        have c24 := q24 z hzv hzb
        rw [sp_is hzv hz0] at c24
        have c28 := q28 z hzv hzb
        rw [sp_is hzv hz0] at c28
        dsimp only at c14 c16 c18 c24 c28
        rw [sz.bo, sz.dr] at c14
        rw [sz.tu] at c16
        rw [sz.su, sz.pe] at c18
        rw [sz.wa] at c24
        rw [sz.wr] at c28
        dsimp only at c14
        (repeat' (first | exact aq | refine And.intro ?_ ?_ | exact trivial))
        all_goals first | exact dd | skip
        all_goals (repeat' (first | exact aq | refine And.intro ?_ ?_ | exact trivial))
        all_goals first | exact dd | skip
        all_goals intro h1
        all_goals first | exact absurd h1 (by decide) | (cases h1; done) | skip
        (repeat' (first | exact aq | refine And.intro ?_ ?_ | exact trivial))
        all_goals first | exact dd | skip
        refine CallP.argsD (args' := [.agg [.int .i64 z.huts, .osl true 7 5 z.n z.cap], .int .i64 i]) (fun η => by simp [denL, den]) ?_
        refine c14.use [7] ?_ (by (repeat' (first | exact fp | refine And.intro ?_ ?_))) rfl
        (repeat' (first | exact aq | refine And.intro ?_ ?_ | exact trivial))
        all_goals first | exact dd | skip
        refine CallP.argsD (args' := [.agg [.int .i64 z.huts, .osl true 7 5 z.n z.cap], .int .i64 i]) (fun η => by simp [denL, den]) ?_
        refine c16.use [7] ?_ (by (repeat' (first | exact fp | refine And.intro ?_ ?_))) rfl
        (repeat' (first | exact aq | refine And.intro ?_ ?_ | exact trivial))
        all_goals first | exact dd | skip
        refine CallP.argsD (args' := [.agg [.int .i64 z.huts, .osl true 7 5 z.n z.cap], .int .i64 i]) (fun η => by simp [denL, den]) ?_
        refine c18.use [7] ?_ (by (repeat' (first | exact fp | refine And.intro ?_ ?_))) rfl
        (repeat' (first | exact aq | refine And.intro ?_ ?_ | exact trivial))
        all_goals first | exact dd | skip
        refine CallP.argsD (args' := [.agg [.int .i64 z.huts, .osl true 7 5 z.n z.cap]]) (fun η => by simp [denL, den]) ?_
        refine c24.use [7] ?_ (by (repeat' (first | exact fp | refine And.intro ?_ ?_))) rfl
        (repeat' (first | exact aq | refine And.intro ?_ ?_ | exact trivial))
        all_goals first | exact dd | skip
        refine CallP.argsD (args' := [.agg [.int .i64 z.huts, .osl true 7 5 z.n z.cap]]) (fun η => by simp [denL, den]) ?_
        refine c28.use [7] ?_ (by (repeat' (first | exact fp | refine And.intro ?_ ?_))) rfl
        all_goals (repeat' (first | exact aq | refine And.intro ?_ ?_ | exact trivial))
        all_goals first | exact dd | skip
        all_goals intro h2
        all_goals first | exact absurd h2 (by decide) | (cases h2; done) | skip
        all_goals (repeat' (first | exact aq | refine And.intro ?_ ?_ | exact trivial))
        all_goals first | exact dd | skip
        all_goals intro h3
        all_goals first | exact absurd h3 (by decide) | (cases h3; done) | skip
        (repeat' (first | exact aq | refine And.intro ?_ ?_ | exact trivial))
        all_goals first | exact dd | skip
        all_goals (repeat' (first | exact aq | refine And.intro ?_ ?_ | exact trivial))
        all_goals first | exact dd | skip
        all_goals intro h4
        all_goals first | exact absurd h4 (by decide) | (cases h4; done) | skip
        all_goals (repeat' (first | exact aq | refine And.intro ?_ ?_ | exact trivial))
        all_goals first | exact dd | skip
        all_goals intro h5
        all_goals first | exact absurd h5 (by decide) | (cases h5; done) | skip
        (repeat' (first | exact aq | refine And.intro ?_ ?_ | exact trivial))
        refine drawP E_ok [9, 10, 11, 12, 15, 16, 17, 18] pl11_43 (by kernel_rfl) ?_
        (repeat' (first | exact aq | refine And.intro ?_ ?_ | exact trivial))
        all_goals first | exact dd | skip
        all_goals refine (t33 _ _).use [] ?_ (by (repeat' (first | exact fp | refine And.intro ?_ ?_))) rfl
        all_goals (repeat' (first | exact aq | refine And.intro ?_ ?_ | exact trivial))
        all_goals first | exact dd | skip
        all_goals intro hx
        all_goals first | (exfalso; simp [mvB, gB, wB] at hx; done) | skip
        clear hx
        refine (t33 _ _).use [] ?_ (by (repeat' (first | exact fp | refine And.intro ?_ ?_))) rfl
        (repeat' (first | exact aq | refine And.intro ?_ ?_ | exact trivial))
        all_goals first | exact dd | skip
        all_goals intro hx
        all_goals first | (exfalso; simp [mvB] at hx; done) | skip
        (repeat' (first | exact aq | refine And.intro ?_ ?_ | exact trivial))
        all_goals first | exact dd | skip
        refine ⟨2 + 1, by omega, by omega, ?_⟩
        refine ent_tau [0, 1, 2, 3, 4, 5, 6, 7, 8, 9, 10, 11, 12, 13] ⟨?_, by (repeat' (first | exact tm | refine And.intro ?_ ?_)), rfl⟩
        (repeat' (first | exact fp | refine And.intro ?_ ?_))
        all_goals exact three' rfl rfl rfl
  · (repeat' (first | exact aq | refine And.intro ?_ ?_ | exact trivial))
    refine CodeP.part (seg11g t hv N c hN) ?_
    exact ent_tau [0, 1, 8] ⟨by (repeat' (first | exact fp | refine And.intro ?_ ?_)), by (repeat' (first | exact tm | refine And.intro ?_ ?_)), rfl⟩
end Go.Proofs.Ytioajogaghgipaa
/-
  TicketMore: what is told of the tickets.
-/
namespace Go.Proofs.Ytioajogaghgipaa
open Go Go.Sy Tic
set_option linter.unusedSimpArgs false
set_option maxRecDepth 100000
set_option maxHeartbeats 4000000
attribute [local irreducible] CallP CodeP Ent YieldP
set_option maxHeartbeats 16000000
-- fast: YtioajogaghgipaaDd
noncomputable def T11e (i : Nat) (m d : Int) (fits : Bool) : Tm := mkT [] [(4, .ptr 1 0), (9, .int .i64 i), (10, .int .i64 m), (11, .int .i64 d), (12, .ptr 2 0), (13, .ptr 3 0), (14, .ptr 4 0), (17, .bool fits)] 0 (List.replicate 565 none)
def H11e (t x y z : TK) : SHeap := TH t ++ [some (.cells (tb t)), some (.cells [.int .i64 x.huts, .slice 5 5 0 x.n x.cap]), some (.cells [.int .i64 y.huts, .slice 6 5 0 y.n y.cap]), some (.cells [.int .i64 z.huts, .slice 7 5 0 z.n z.cap]),
  some (.arr 5 x.n x.cap (TF x)), some (.arr 5 y.n y.cap (TF y)), some (.arr 5 z.n z.cap (TF z))]
theorem seg11e (t : TK) (hv : t.Valid) (x y z : TK) (hxv : x.Valid) (hxb : x.b = true) (hxn : TK.Nar t x) (hyv : y.Valid) (hyb : y.b = true) (fits : Bool) (hzv : fits = true → z.Valid) (hzb : z.b = true)
    (i : Nat) (hi : i < t.n) (hxi : i < x.n) (hyi : i < y.n) (hzi : i < z.n) (m d : Int) (hm : 0 ≤ m ∧ m ≤ 240) (hd : 0 ≤ d ∧ d ≤ 60)
    (sy : t.trs ≠ [] → SameT t y i m) (hy0 : t.trs = [] → y.trs = []) (sz : fits = true → t.trs ≠ [] → LateT t z i d) (hz0 : fits = true → t.trs = [] → z.trs = []) :
    CodeP Try.prog none 1 (sufC Try.f11 8) ⟨T11e i m d fits, H11e t x y z, []⟩ (KRet E Try.f11 1 (.bool true) (TH t)) := by
  have ei := z1 i
  have hn := hv.2.1
  have h4 := hv.1
  have hI : InR .i64 t.huts := ⟨by omega, by omega⟩
  have th := (hv.2.2 i hi).1
  have c14 := t14 t (by omega) hI i
  have c16 := t16 t (by omega) hI i
  have c18 := t18 t (by omega) hI i
  have c24 := t24 t (by omega) hI
  have c28 := t28 t (by omega) hI
  have c22 := t22 t (by omega) hI (t.hut (0 + ((i : Nat) : Int).toNat)) m
  have c20 := t20 t (by omega) hI m
  by_cases hne : t.trs = []
  · have hx0 : x.trs = [] := by
      by_cases c : x.trs = []
      · exact c
      · exact absurd hne (hxn.ne c)
    rw [min_nil hv hne i hi] at c14
    rw [turn_nil hv hne i hi] at c16
    rw [pas_nil hv hne i hi] at c18
    rw [sp_nil hv hne] at c24 c28
    rw [fre_nil hv hne _ m (by rw [ei]; exact th) hm] at c22
    rw [who_nil hv hne m hm] at c20
    dsimp only at c14 c16 c18 c24 c28 c22 c20
    refine codeP_XK E_ok 10 ?_
    (repeat' (first | exact aq | refine And.intro ?_ ?_ | exact trivial))
    all_goals first | exact dd | skip
    all_goals first | exact (fun k _ => rfl) | (show (0 + t.n) * 40 ≤ 140737488355328; omega) | skip
    intro c hc1 hc2
    have hc1 : 0 + t.n ≤ c := hc1
    (repeat' (first | exact aq | refine And.intro ?_ ?_ | exact trivial))
    all_goals first | exact dd | skip
    refine c14.use [0] ?_ (by (repeat' (first | exact fp | refine And.intro ?_ ?_))) rfl
    (repeat' (first | exact aq | refine And.intro ?_ ?_ | exact trivial))
    refine c16.use [0] ?_ (by (repeat' (first | exact fp | refine And.intro ?_ ?_))) rfl
    (repeat' (first | exact aq | refine And.intro ?_ ?_ | exact trivial))
    refine c18.use [0] ?_ (by (repeat' (first | exact fp | refine And.intro ?_ ?_))) rfl
    (repeat' (first | exact aq | refine And.intro ?_ ?_ | exact trivial))
    refine c24.use [0] ?_ (by (repeat' (first | exact fp | refine And.intro ?_ ?_))) rfl
    (repeat' (first | exact aq | refine And.intro ?_ ?_ | exact trivial))
    refine c28.use [0] ?_ (by (repeat' (first | exact fp | refine And.intro ?_ ?_))) rfl
    (repeat' (first | exact aq | refine And.intro ?_ ?_ | exact trivial))
    refine drawP E_ok [1] pl11_26 (by kernel_rfl) ?_
    (repeat' (first | exact aq | refine And.intro ?_ ?_ | exact trivial))
    all_goals first | exact dd | skip
    refine c22.use [0] ?_ (by (repeat' (first | exact fp | refine And.intro ?_ ?_))) rfl
    (repeat' (first | exact aq | refine And.intro ?_ ?_ | exact trivial))
    all_goals first | exact dd | skip
    refine c20.use [0] ?_ (by (repeat' (first | exact fp | refine And.intro ?_ ?_))) rfl
    all_goals (repeat' (first | exact aq | refine And.intro ?_ ?_ | exact trivial))
    all_goals first | exact dd | skip
    all_goals intro h1
    all_goals first | exact absurd h1 (by decide) | (cases h1; done) | skip
    (repeat' (first | exact aq | refine And.intro ?_ ?_ | exact trivial))
    all_goals first | exact dd | skip
    refine CodeP.part (seg11n t hv x y z hxv hxb hx0 hyv hyb (hy0 hne) fits hzv hzb (fun q => hz0 q hne) i hxi hyi hzi m d (0 + t.n) c (Nat.zero_add _)) ?_
    refine ent_tau [0, 1, 2, 3, 4, 5, 6, 7, 9, 10, 11, 12, 13] ⟨?_, by (repeat' (first | exact tm | refine And.intro ?_ ?_)), rfl⟩
    (repeat' (first | exact fp | refine And.intro ?_ ?_))
    all_goals exact row_app0
  · have sy := sy hne
    rw [min_is hv hne i hi] at c14
    rw [turn_is hv hne i hi] at c16
    rw [pas_is hv hne i hi] at c18
    rw [sp_is hv hne] at c24 c28
    have e22 : t.freeT (t.hut (0 + ((i : Nat) : Int).toNat)) m = t.freeT (t.hut i) m := by rw [ei]
    rw [fre_is hv hne _ m (by rw [ei]; exact th) hm, e22] at c22
    rw [who_is hv hne m hm] at c20
    dsimp only at c14 c16 c18 c24 c28 c22 c20
    refine codeP_XK E_ok 10 ?_
    (repeat' (first | exact aq | refine And.intro ?_ ?_ | exact trivial))
    all_goals first | exact dd | skip
    all_goals first | exact (fun k _ => rfl) | (show (0 + t.n) * 40 ≤ 140737488355328; omega) | skip
    intro c hc1 hc2
    have hc1 : 0 + t.n ≤ c := hc1
    (repeat' (first | exact aq | refine And.intro ?_ ?_ | exact trivial))
    all_goals first | exact dd | skip
    refine c14.use [0] ?_ (by (repeat' (first | exact fp | refine And.intro ?_ ?_))) rfl
    (repeat' (first | exact aq | refine And.intro ?_ ?_ | exact trivial))
    refine c16.use [0] ?_ (by (repeat' (first | exact fp | refine And.intro ?_ ?_))) rfl
    (repeat' (first | exact aq | refine And.intro ?_ ?_ | exact trivial))
    refine c18.use [0] ?_ (by (repeat' (first | exact fp | refine And.intro ?_ ?_))) rfl
    (repeat' (first | exact aq | refine And.intro ?_ ?_ | exact trivial))
    refine c24.use [0] ?_ (by (repeat' (first | exact fp | refine And.intro ?_ ?_))) rfl
    (repeat' (first | exact aq | refine And.intro ?_ ?_ | exact trivial))
    refine c28.use [0] ?_ (by (repeat' (first | exact fp | refine And.intro ?_ ?_))) rfl
    (repeat' (first | exact aq | refine And.intro ?_ ?_ | exact trivial))
    refine drawP E_ok [1] pl11_26 (by kernel_rfl) ?_
    (repeat' (first | exact aq | refine And.intro ?_ ?_ | exact trivial))
    all_goals first | exact dd | skip
    refine c22.use [0] ?_ (by (repeat' (first | exact fp | refine And.intro ?_ ?_))) rfl
    (repeat' (first | exact aq | refine And.intro ?_ ?_ | exact trivial))
    all_goals first | exact dd | skip
    refine c20.use [0] ?_ (by (repeat' (first | exact fp | refine And.intro ?_ ?_))) rfl
    all_goals (repeat' (first | exact aq | refine And.intro ?_ ?_ | exact trivial))
    all_goals first | exact dd | skip
    all_goals intro h1
    all_goals first | exact absurd h1 (by decide) | (cases h1; done) | skip
    (repeat' (first | exact aq | refine And.intro ?_ ?_ | exact trivial))
    all_goals first | exact dd | skip
    refine CodeP.part (seg11v t hv hne x y z hxv hxb hxn hyv hyb fits hzv hzb i hi hxi hyi hzi m d hm hd sy (fun q => sz q hne) (0 + t.n) c (Nat.zero_add _)) ?_
    refine ent_tau [0, 1, 2, 3, 4, 5, 6, 7, 9, 10, 11, 12, 13] ⟨?_, by (repeat' (first | exact tm | refine And.intro ?_ ?_)), rfl⟩
    (repeat' (first | exact fp | refine And.intro ?_ ?_))
    all_goals exact row_app0
end Go.Proofs.Ytioajogaghgipaa
