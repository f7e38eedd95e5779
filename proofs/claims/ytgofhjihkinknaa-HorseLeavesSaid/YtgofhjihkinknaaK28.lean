/-
  Parts: H9, H10, Qa, Qb, Qc, Qf, Ue.
-/
import Derived.Test.YtgofhjihkinknaaK14
import Derived.Test.YtgofhjihkinknaaK26
import Derived.Test.YtgofhjihkinknaaK11
import Derived.Test.YtgofhjihkinknaaK23
import Derived.Test.YtgofhjihkinknaaK15
set_option linter.unusedVariables false
/-
  Plain law of horses, part 9.
-/
namespace Kuhn
namespace HD
set_option linter.unusedVariables false

/-! ### Plans with other numbers of horses: as they come -/
/-- Does a horse come here for the first time? -/
def fresh (p : Nat → Int) (i : Nat) : Bool := (List.range i).all fun k => !decide (p k = p i)
def usedF (p : Nat → Int) : Nat → Nat
  | 0 => 0
  | n + 1 => usedF p n + match fresh p n with | true => 1 | false => 0
theorem fresh_iff {p : Nat → Int} {i : Nat} : fresh p i = true ↔ ∀ k, k < i → p k ≠ p i := by
  unfold fresh
  rw [List.all_eq_true]
  constructor
  · intro H k hk e
    have := H k (List.mem_range.2 hk)
    rw [decide_eq_true e] at this
    cases this
  · intro H k hk
    rw [decide_eq_false (H k (List.mem_range.1 hk))]
    rfl
theorem usedF_mono {p : Nat → Int} {i : Nat} : ∀ {n : Nat}, i ≤ n → usedF p i ≤ usedF p n
  | 0, h => by rw [Nat.le_zero.1 h]; exact Nat.le_refl _
  | n + 1, h => by
    by_cases c : i ≤ n
    · have := usedF_mono (p := p) c
      rw [usedF]
      omega
    · rw [show i = n + 1 by omega]
      exact Nat.le_refl _
theorem usedF_le (p : Nat → Int) : ∀ n, usedF p n ≤ n
  | 0 => Nat.le_refl _
  | n + 1 => by
    have := usedF_le p n
    rw [usedF]
    split <;> omega
theorem usedF_lt {p : Nat → Int} {i n : Nat} (h : fresh p i = true) (hi : i < n) : usedF p i < usedF p n := by
  have := usedF_mono (p := p) (show i + 1 ≤ n from hi)
  rw [usedF, h] at this
  simp only at this
  omega
open Classical in
/-- The first one that has the same horse. -/
noncomputable def fst (p : Nat → Int) (i : Nat) : Nat := if h : ∃ k, p k = p i ∧ ∀ m, m < k → p m ≠ p i then h.choose else 0
theorem fst_ex (p : Nat → Int) (x : Int) : ∀ n, (∃ k, k < n ∧ p k = x) → ∃ k, k < n ∧ p k = x ∧ ∀ m, m < k → p m ≠ x
  | 0, ⟨k, hk, _⟩ => absurd hk (Nat.not_lt_zero k)
  | n + 1, ⟨k, hk, e⟩ => by
    by_cases c : ∃ k, k < n ∧ p k = x
    · obtain ⟨k', a, b⟩ := fst_ex p x n c
      exact ⟨k', by omega, b⟩
    · have : k = n := by
        by_cases q : k < n
        · exact absurd ⟨k, q, e⟩ c
        · omega
      subst this
      exact ⟨k, hk, e, fun m hm e2 => c ⟨m, hm, e2⟩⟩
theorem fst_is (p : Nat → Int) (i : Nat) : p (fst p i) = p i ∧ ∀ m, m < fst p i → p m ≠ p i := by
  have h : ∃ k, p k = p i ∧ ∀ m, m < k → p m ≠ p i := by
    obtain ⟨k, _, b⟩ := fst_ex p (p i) (i + 1) ⟨i, by omega, rfl⟩
    exact ⟨k, b⟩
  unfold fst
  rw [dif_pos h]
  exact h.choose_spec
theorem fst_le (p : Nat → Int) (i : Nat) : fst p i ≤ i := by
  by_cases c : fst p i ≤ i
  · exact c
  · exact absurd rfl ((fst_is p i).2 i (by omega))
theorem fst_fresh (p : Nat → Int) (i : Nat) : fresh p (fst p i) = true := fresh_iff.2 fun k hk e => (fst_is p i).2 k hk (e.trans (fst_is p i).1)
/-- Horses numbered as they come. -/
noncomputable def canon (p : Nat → Int) (i : Nat) : Int := (usedF p (fst p i) : Nat)
theorem canon_eq {p : Nat → Int} {i k : Nat} (h : canon p i = canon p k) : p i = p k := by
  unfold canon at h
  have h' : usedF p (fst p i) = usedF p (fst p k) := by omega
  rcases Nat.lt_trichotomy (fst p i) (fst p k) with c | c | c
  · have := usedF_lt (fst_fresh p i) c
    omega
  · rw [← (fst_is p i).1, c, (fst_is p k).1]
  · have := usedF_lt (fst_fresh p k) c
    omega
theorem canon_lt {p : Nat → Int} {i n : Nat} (hi : i < n) : 0 ≤ canon p i ∧ canon p i < usedF p n := by
  have := usedF_lt (n := n) (fst_fresh p i) (by have := fst_le p i; omega)
  unfold canon
  omega
/-- At the first difference less, or none. -/
def LeX (n : Nat) (p q : Nat → Int) : Prop := ∀ i, i < n → (∀ k, k < i → p k = q k) → p i ≤ q i
theorem LeX.trans {n : Nat} {p q r : Nat → Int} (h : LeX n p q) (h' : LeX n q r) : LeX n p r := by
  intro i hi he
  have key : ∀ m, m ≤ i → ∀ k, k < m → p k = q k := by
    intro m
    induction m with
    | zero => intro _ k hk; omega
    | succ m ih =>
      intro hm k hk
      by_cases c : k = m
      · subst c
        have a := h k (by omega) (ih (by omega))
        have b := h' k (by omega) fun j hj => by rw [← ih (by omega) j hj]; exact he j (by omega)
        have := he k (by omega)
        omega
      · exact ih (by omega) k (by omega)
  have a := h i hi (key i (Nat.le_refl i))
  have b := h' i hi fun j hj => by rw [← key i (Nat.le_refl i) j hj]; exact he j hj
  omega
theorem LeX.same {n : Nat} {p q : Nat → Int} (h : LeX n p q) (h' : LeX n q p) : ∀ m, m ≤ n → ∀ k, k < m → p k = q k := by
  intro m
  induction m with
  | zero => intro _ k hk; omega
  | succ m ih =>
    intro hm k hk
    by_cases c : k = m
    · subst c
      have a := h k (by omega) (ih (by omega))
      have b := h' k (by omega) fun j hj => (ih (by omega) j hj).symm
      omega
    · exact ih (by omega) k (by omega)
theorem canon_right {h : HD} {s : Bool} {ok : Nat → Bool} {p : Nat → Int} (H : h.Right s ok p) : h.Right s ok (canon p) :=
  fun i k hi hk oi ok' hne e => H i k hi hk oi ok' hne (canon_eq e)
theorem used_le {h : HD} (hv : h.Valid) {s : Bool} {p : Nat → Int} (H : h.Right s full p) : h.few s ≤ usedF p h.n :=
  need_le hv (canon_right H) fun i hi _ => canon_lt hi
theorem usedF_top {p : Nat → Int} {m : Nat} : ∀ {n : Nat}, (∀ i, i < n → 0 ≤ p i ∧ p i < m) → usedF p n ≤ m := by
  intro n h
  have a : cnt (fun i => fresh p i) n = usedF p n := by
    clear h
    induction n with
    | zero => rfl
    | succ n ih =>
      rw [cnt, ih, usedF]
      cases fresh p n <;> rfl
  rw [← a]
  have := cnt_inj (p := fun i => fresh p i) (fun i => (p i).toNat) (m := m) n (fun _ => true) (fun r hr _ => ⟨by
    have := h r hr
    omega, rfl⟩) (fun r t hr ht b1 b2 e => by
      have a1 := h r hr
      have a2 := h t ht
      have e2 : p r = p t := by omega
      rcases Nat.lt_trichotomy r t with c | c | c
      · exact absurd e2 (fresh_iff.1 b2 r c)
      · exact c
      · exact absurd e2.symm (fresh_iff.1 b1 t c))
  rwa [cnt_full] at this
def planF (h : HD) (s : Bool) (k : Nat) : Int := (h.plan s).getD k 0
theorem plan_head {h : HD} (hv : h.Valid) (s : Bool) : (h.ways s full (h.few s) h.n []).head? = some (h.plan s) := by
  cases hw : h.ways s full (h.few s) h.n [] with
  | nil => exact absurd hw ((ways_ne hv s full (h.few s)).2 (Nat.le_refl _))
  | cons a l =>
    unfold plan
    rw [hw]
    rfl
theorem plan_ok {h : HD} (hv : h.Valid) (s : Bool) : OkL h s full (h.few s) (h.plan s) ∧ (h.plan s).length = h.n := by
  obtain ⟨a, b, _⟩ := ways_sub h.n [] OkL.nil _ (List.mem_of_head? (plan_head hv s))
  exact ⟨a, by simpa using b⟩
theorem planF_lt {h : HD} (hv : h.Valid) (s : Bool) {i : Nat} (hi : i < h.n) : 0 ≤ h.planF s i ∧ h.planF s i < h.few s := by
  obtain ⟨a, b⟩ := plan_ok hv s
  exact a.yes i (by omega) rfl
theorem planF_right {h : HD} (hv : h.Valid) (s : Bool) : h.Right s full (h.planF s) := by
  obtain ⟨a, b⟩ := plan_ok hv s
  intro i k hi hk _ _ hne e
  rcases Nat.lt_or_gt_of_ne hne with c | c
  · rw [apart_comm]
    exact a.right i k c (by omega) rfl e
  · exact a.right k i c (by omega) rfl e.symm
theorem planF_used {h : HD} (hv : h.Valid) (s : Bool) : usedF (h.planF s) h.n = h.few s :=
  Nat.le_antisymm (usedF_top fun i hi => planF_lt hv s hi) (used_le hv (planF_right hv s))
end HD
end Kuhn
/-
  Plain law of horses, part 10.
-/
namespace Kuhn
namespace HD
set_option linter.unusedVariables false

/-! ### Fewer moves, other moves -/
theorem need_mono {h : HD} (hv : h.Valid) {s : Bool} {ok ok' : Nat → Bool} (hs : ∀ i, i < h.n → ok i = true → ok' i = true) : h.need s ok ≤ h.need s ok' := by
  obtain ⟨p, a, b⟩ := need_plan hv s ok'
  exact need_le hv (p := p) (fun i k hi hk oi ok'' hne e => b i k hi hk (hs i hi oi) (hs k hk ok'') hne e) fun i hi oi => a i hi (hs i hi oi)
theorem need_congr {h : HD} (hv : h.Valid) {s : Bool} {ok ok' : Nat → Bool} (hs : ∀ i, i < h.n → ok i = ok' i) : h.need s ok = h.need s ok' :=
  Nat.le_antisymm (need_mono hv fun i hi e => by rw [← hs i hi]; exact e) (need_mono hv fun i hi e => by rw [hs i hi]; exact e)
/-- The moves of one beach are some of those of another one. -/
structure Emb (x h : HD) (s : Bool) (e : Nat → Nat) : Prop where
  lt : ∀ a, a < x.n → e a < h.n
  inj : ∀ a b, a < x.n → b < x.n → e a = e b → a = b
  can : ∀ a b, a < x.n → b < x.n → x.can s a b = h.can s (e a) (e b)
def img (x : HD) (e : Nat → Nat) (j : Nat) : Bool := (List.range x.n).any fun a => decide (e a = j)
theorem img_iff {x : HD} {e : Nat → Nat} {j : Nat} : img x e j = true ↔ ∃ a, a < x.n ∧ e a = j := by
  simp [img]
theorem Emb.apart {x h : HD} {s : Bool} {e : Nat → Nat} (H : Emb x h s e) {a b : Nat} (ha : a < x.n) (hb : b < x.n) : x.apart s a b = h.apart s (e a) (e b) := by
  unfold HD.apart
  rw [H.can a b ha hb, H.can b a hb ha]
open Classical in
noncomputable def inv (x : HD) (e : Nat → Nat) (j : Nat) : Nat := if h : ∃ a, a < x.n ∧ e a = j then h.choose else 0
theorem inv_is {x : HD} {e : Nat → Nat} {j : Nat} (h : img x e j = true) : inv x e j < x.n ∧ e (inv x e j) = j := by
  have h' := img_iff.1 h
  unfold inv
  rw [dif_pos h']
  exact h'.choose_spec
theorem Emb.need {x h : HD} {s : Bool} {e : Nat → Nat} (H : Emb x h s e) (hx : x.Valid) (hv : h.Valid) : x.few s = h.need s (img x e) := by
  apply Nat.le_antisymm
  · obtain ⟨p, a, b⟩ := need_plan hv s (img x e)
    have im : ∀ a, a < x.n → img x e (e a) = true := fun a ha => img_iff.2 ⟨a, ha, rfl⟩
    exact need_le hx (p := fun i => p (e i)) (fun i k hi hk _ _ hne q => by
      rw [H.apart hi hk]
      exact b _ _ (H.lt i hi) (H.lt k hk) (im i hi) (im k hk) (fun c => hne (H.inj i k hi hk c)) q) fun i hi _ => a _ (H.lt i hi) (im i hi)
  · obtain ⟨p, a, b⟩ := need_plan hx s full
    refine need_le hv (p := fun j => p (inv x e j)) (fun i k hi hk oi ok' hne q => ?_) fun i hi oi => a _ (inv_is oi).1 rfl
    obtain ⟨i1, i2⟩ := inv_is oi
    obtain ⟨k1, k2⟩ := inv_is ok'
    have := b _ _ i1 k1 rfl rfl (fun c => hne (by rw [← i2, ← k2, c])) q
    rw [H.apart i1 k1, i2, k2] at this
    exact this
/-- The same moves, otherwise numbered. -/
theorem Emb.few {x h : HD} {s : Bool} {e : Nat → Nat} (H : Emb x h s e) (hx : x.Valid) (hv : h.Valid) (hall : ∀ j, j < h.n → ∃ a, a < x.n ∧ e a = j) : x.few s = h.few s := by
  rw [H.need hx hv]
  exact need_congr hv fun i hi => img_iff.2 (hall i hi)
end HD
end Kuhn
/-
  Contracts: far, fine, plans by numbers.
-/
namespace Go.Proofs.Ytgofhjihkinknaa
open Go Go.Sy Kuhn
set_option linter.unusedSimpArgs false
set_option maxRecDepth 100000
set_option maxHeartbeats 4000000
attribute [local irreducible] CallP CodeP Ent YieldP
attribute [local irreducible] HD.ch maskO

theorem lt64 {k : Int} (h : k < 64) : k < ((IntKind.bits .i64 : Nat) : Int) := h
theorem t14 (h : HD) : CallP Try.prog 14 [HD.A h, .snil] (HD.H h) (Ret (.bool (decide (40 < h.n))) (HD.H h)) := by
  refine callR (E := E) E_ok Try.func14 rfl ?_
  (repeat' (first | exact trivial | exact fun _ => rfl | exact rfl | refine And.intro ?_ ?_))
  all_goals first | (first | omega | exact u0 (by omega) | exact u1 (by omega) | exact u1 ⟨by omega, by omega⟩ | exact un (by omega) | exact fun hh => hh | exact fun hh => absurd hh (by decide) | exact fun hh => congrArg not hh | exact fun hh => Bool.noConfusion (show true = false from hh) | exact fun hh => Bool.noConfusion (show false = true from hh)) | skip
  refine ent_tau [0] ⟨by (repeat' (first | exact trivial | exact rfl | exact fun _ _ => rfl | exact fun _ _ _ _ => rfl | exact Or.inl rfl | exact Or.inr rfl | refine And.intro ?_ ?_)), ⟨rfl, ?_, trivial⟩, rfl⟩
  refine congrArg SV.bool ?_
  by_cases c : 40 < h.n
  · rw [decide_eq_true c]
    exact decide_eq_true (by split <;> omega)
  · rw [decide_eq_false c]
    exact decide_eq_false (by split <;> omega)
def BDF (y : PD) (k : Nat) : List SV := [.int .u8 (y.p k)]
end Go.Proofs.Ytgofhjihkinknaa
/-
  HorseCheck.
-/
namespace Go.Proofs.Ytgofhjihkinknaa
open Go Go.Sy Kuhn
set_option linter.unusedSimpArgs false
set_option maxRecDepth 100000
set_option maxHeartbeats 4000000
attribute [local irreducible] CallP CodeP Ent YieldP
attribute [local irreducible] HD.ch maskO

def Hm (h : HD) (y pl : PD) : SHeap := HD.H h ++ [some (.roa 1 y.n (BDF y)), some (.cells (bc h)), some (.roa 1 pl.n (PD.F pl))]
end Go.Proofs.Ytgofhjihkinknaa
/-
  Plain law: sets of moves of which no two are one horse's; how many there are.
-/
namespace Go.Proofs.Ytgofhjihkinknaa
open Go Go.Sy Kuhn
set_option linter.unusedSimpArgs false
set_option maxRecDepth 100000
set_option maxHeartbeats 4000000
attribute [local irreducible] CallP CodeP Ent YieldP
attribute [local irreducible] HD.ch maskO

theorem lone_all {h : HD} {s : Bool} {S : Nat} : ∀ {n : Nat}, lone h s S n = true ↔ ∀ i, i < n → S.testBit i = true → sdiff S (2 ^ i) &&& h.ch s i = 0
  | 0 => ⟨fun _ i hi => absurd hi (Nat.not_lt_zero i), fun _ => rfl⟩
  | n + 1 => by
    simp only [lone, Bool.and_eq_true, lone_all (n := n)]
    constructor
    · rintro ⟨a, b⟩ i hi hb
      rcases Nat.lt_succ_iff_lt_or_eq.1 hi with c | rfl
      · exact a i c hb
      · rw [hb] at b
        by_cases c : sdiff S (2 ^ i) &&& h.ch s i = 0
        · exact c
        · rw [decide_eq_false c] at b
          cases b
    · intro H
      refine ⟨fun i hi => H i (by omega), ?_⟩
      cases hb : S.testBit n with
      | false => rfl
      | true =>
        rw [decide_eq_true (H n (by omega) hb)]
        rfl
theorem lone_iff {h : HD} (hn : h.n ≤ 7) {s : Bool} {S : Nat} (hS : S < 2 ^ h.n) : lone h s S h.n = true ↔ h.Alone s (fun i => S.testBit i) := by
  have key : ∀ i, i < h.n → (sdiff S (2 ^ i) &&& h.ch s i = 0 ↔ ∀ k, k < h.n → S.testBit k = true → k ≠ i → h.can s i k = false) := by
    intro i hi
    constructor
    · intro e k hk hb hne
      have := congrArg (fun x => x.testBit k) e
      simp only [Nat.testBit_and, Nat.zero_testBit] at this
      rw [sdiff_bit (by omega), hb, HD.ch_bit, decide_eq_true hi, decide_eq_true hk, Nat.testBit_two_pow, decide_eq_false (by omega)] at this
      simpa using this
    · intro H
      apply Nat.eq_of_testBit_eq
      intro k
      simp only [Nat.testBit_and, Nat.zero_testBit]
      by_cases hk : k < h.n
      · rw [sdiff_bit (by omega), HD.ch_bit, decide_eq_true hi, decide_eq_true hk, Nat.testBit_two_pow]
        by_cases hne : k = i
        · rw [decide_eq_true hne.symm]
          simp
        · cases hb : S.testBit k with
          | false => simp
          | true =>
            rw [H k hk hb hne]
            simp
      · rw [HD.ch_bit, decide_eq_false hk]
        simp
  rw [lone_all]
  constructor
  · intro H i k hi hk bi bk hne
    have a := (key i hi).1 (H i hi bi) k hk bk fun c => hne c.symm
    have b := (key k hk).1 (H k hk bk) i hi bi hne
    unfold HD.apart
    rw [a, b]
    rfl
  · intro H i hi bi
    refine (key i hi).2 fun k hk bk hne => ?_
    have := H i k hi hk bi bk fun c => hne c.symm
    unfold HD.apart at this
    simp only [Bool.and_eq_true] at this
    cases c : h.can s i k
    · rfl
    · rw [c] at this
      simp at this
end Go.Proofs.Ytgofhjihkinknaa
/-
  Contracts: right, Used, Size.
-/
namespace Go.Proofs.Ytgofhjihkinknaa
open Go Go.Sy Kuhn
set_option linter.unusedSimpArgs false
set_option maxRecDepth 100000
set_option maxHeartbeats 4000000
attribute [local irreducible] CallP CodeP Ent YieldP
attribute [local irreducible] HD.ch maskO

theorem pop_half : ∀ S : Fin 128, pop S = S.val % 2 + pop (S.val / 2) := by decide +kernel
theorem pop_step {m : Nat} (h : m < 128) : pop m = m % 2 + pop (m / 2) := pop_half ⟨m, h⟩
theorem pop_zero : pop 0 = 0 := by decide +kernel
theorem pop_le7 (S : Nat) : pop S ≤ 7 := cnt_bnd _ 7
theorem t42 (S : Nat) (hS : S < 128) : CallP Try.prog 42 [.int .i64 S] [] (Ret (.int .i64 (pop S : Nat)) []) := by
  refine callR (E := E) E_ok Try.func42 rfl ?_
  (repeat' (first | exact trivial | exact fun _ => rfl | exact rfl | refine And.intro ?_ ?_))
  refine loopP E_ok [] (fun g : Nat × Nat => [(0, .int .i64 g.1), (3, .int .i64 g.2)]) (fun _ H => H) (fun g => g.1 < 128 ∧ g.2 + pop g.1 = pop S) (fun g => g.1) (S, 0) ⟨hS, Nat.zero_add _⟩ ?_ ?_
  · exact ent_tau [] ⟨by (repeat' (first | exact trivial | exact rfl | exact fun _ _ => rfl | exact fun _ _ _ _ => rfl | exact Or.inl rfl | exact Or.inr rfl | refine And.intro ?_ ?_)), by (repeat' (first | exact trivial | exact rfl | exact congrArg (SV.int .i64) (Int.natCast_succ _).symm | exact congrArg (SV.int .u64) (Int.natCast_succ _).symm | refine And.intro ?_ ?_)), rfl⟩
  rintro ⟨m, j⟩ ⟨hm, hj⟩
  simp only at hm hj
  have hp := pop_step hm
  have h7 := pop_le7 S
  refine And.intro ?_ (And.intro (fun hc => ?_) (fun hc => ?_))
  · (repeat' (first | exact trivial | exact fun _ => rfl | exact rfl | refine And.intro ?_ ?_))
  · have hm0 : 0 < m := by
      have := of_decide_eq_true hc
      omega
    have e1 : ((m : Nat) : Int).tmod 2 = ((m % 2 : Nat) : Int) := by
      rw [Int.tmod_eq_emod_of_nonneg (by omega)]
      rfl
    have e2 : ((m : Nat) : Int).tdiv 2 = ((m / 2 : Nat) : Int) := by
      rw [Int.tdiv_eq_ediv_of_nonneg (by omega)]
      rfl
    (repeat' (first | exact trivial | exact fun _ => rfl | exact rfl | refine And.intro ?_ ?_))
    all_goals first | (first | omega | exact u0 (by omega) | exact u1 (by omega) | exact u1 ⟨by omega, by omega⟩ | exact un (by omega) | exact fun hh => hh | exact fun hh => absurd hh (by decide) | exact fun hh => congrArg not hh | exact fun hh => Bool.noConfusion (show true = false from hh) | exact fun hh => Bool.noConfusion (show false = true from hh)) | (rw [e1]; omega) | (rw [e2]; omega) | skip
    refine ⟨(m / 2, j + m % 2), ⟨by simp only; omega, by simp only; omega⟩, by simp only; omega, ?_⟩
    refine ent_tau [] ⟨by (repeat' (first | exact trivial | exact rfl | exact fun _ _ => rfl | exact fun _ _ _ _ => rfl | exact Or.inl rfl | exact Or.inr rfl | refine And.intro ?_ ?_)), ?_, rfl⟩
    (repeat' (first | exact trivial | exact rfl | exact congrArg (SV.int .i64) e2 | exact congrArg (SV.int .i64) (by rw [e1]; exact (Int.natCast_add _ _).symm) | refine And.intro ?_ ?_))
  · have e : m = 0 := by
      have := of_decide_eq_false hc
      omega
    subst e
    have e2 : j = pop S := by rw [← hj, pop_zero]; rfl
    (repeat' (first | exact trivial | exact fun _ => rfl | exact rfl | refine And.intro ?_ ?_))
    refine ent_tau [] ⟨by (repeat' (first | exact trivial | exact rfl | exact fun _ _ => rfl | exact fun _ _ _ _ => rfl | exact Or.inl rfl | exact Or.inr rfl | refine And.intro ?_ ?_)), ⟨rfl, ?_, trivial⟩, rfl⟩
    exact congrArg (fun z : Nat => SV.int .i64 z) e2
end Go.Proofs.Ytgofhjihkinknaa
/-
  Contract of the document's answer: Proof.
-/
namespace Go.Proofs.Ytgofhjihkinknaa
open Go Go.Sy Kuhn
set_option linter.unusedSimpArgs false
set_option maxRecDepth 100000
set_option maxHeartbeats 4000000
attribute [local irreducible] CallP CodeP Ent YieldP
attribute [local irreducible] HD.ch maskO pw

/-- May both moves be in the proof? -/
def pairB (h : HD) (s : Bool) (S a b : Nat) : Bool := !S.testBit a || (!S.testBit b || h.apart s a b)
def allB (h : HD) (s : Bool) (S a : Nat) : Nat → Bool
  | 0 => true
  | b + 1 => allB h s S a b && pairB h s S a b
def allA (h : HD) (s : Bool) (S : Nat) : Nat → Bool
  | 0 => true
  | a + 1 => allA h s S a && allB h s S a a
theorem allB_iff {h : HD} {s : Bool} {S a : Nat} : ∀ {b : Nat}, allB h s S a b = true ↔ ∀ b', b' < b → pairB h s S a b' = true
  | 0 => ⟨fun _ _ hb => absurd hb (Nat.not_lt_zero _), fun _ => rfl⟩
  | b + 1 => by
    rw [allB, Bool.and_eq_true, allB_iff (b := b)]
    refine ⟨fun ⟨x, y⟩ b' hb => ?_, fun H => ⟨fun b' hb => H b' (by omega), H b (by omega)⟩⟩
    rcases Nat.lt_succ_iff_lt_or_eq.1 hb with c | rfl
    · exact x b' c
    · exact y
theorem allA_iff {h : HD} {s : Bool} {S : Nat} : ∀ {a : Nat}, allA h s S a = true ↔ ∀ a' b', a' < a → b' < a' → pairB h s S a' b' = true
  | 0 => ⟨fun _ _ _ ha => absurd ha (Nat.not_lt_zero _), fun _ => rfl⟩
  | a + 1 => by
    rw [allA, Bool.and_eq_true, allA_iff (a := a), allB_iff]
    refine ⟨fun ⟨x, y⟩ a' b' ha hb => ?_, fun H => ⟨fun a' b' ha hb => H a' b' (by omega) hb, fun b' hb => H a b' (by omega) hb⟩⟩
    rcases Nat.lt_succ_iff_lt_or_eq.1 ha with c | rfl
    · exact x a' b' c hb
    · exact y b' hb
theorem pairB_iff {h : HD} {s : Bool} {S a b : Nat} : pairB h s S a b = true ↔ (S.testBit a = true → S.testBit b = true → h.apart s a b = true) := by
  unfold pairB
  cases S.testBit a <;> cases S.testBit b <;> simp
theorem allA_lone {h : HD} (hn : h.n ≤ 7) {s : Bool} {S : Nat} (hS : S < 2 ^ h.n) : allA h s S h.n = lone h s S h.n := by
  rw [Bool.eq_iff_iff, allA_iff, lone_iff hn hS]
  constructor
  · intro H i k hi hk bi bk hne
    rcases Nat.lt_or_gt_of_ne hne with c | c
    · rw [HD.apart_comm]
      exact pairB_iff.1 (H k i hk c) bk bi
    · exact pairB_iff.1 (H i k hi c) bi bk
  · intro H a b ha hb
    exact pairB_iff.2 fun x y => H a b ha (by omega) x y (by omega)
/-- The best set so far. -/
def BestF (h : HD) (s : Bool) (i b : Nat) : Prop := b < 2 ^ h.n ∧ lone h s b h.n = true ∧ ∀ T, T < i → lone h s T h.n = true → b = T ∨ Prior false b T
theorem bestF_zero (h : HD) (s : Bool) : BestF h s 0 0 := ⟨Nat.pow_pos (by decide), lone_zero h s h.n, fun T hT => absurd hT (Nat.not_lt_zero T)⟩
theorem bestF_yes {h : HD} {s : Bool} {i b : Nat} (H : BestF h s i b) (hi : i < 2 ^ h.n) (hl : lone h s i h.n = true) (hp : pop b < pop i) : BestF h s (i + 1) i := by
  obtain ⟨_, _, h3⟩ := H
  refine ⟨hi, hl, fun T hT hTl => ?_⟩
  rcases Nat.lt_succ_iff_lt_or_eq.1 hT with c | rfl
  · refine .inr (.inl ?_)
    show pop T < pop i
    rcases h3 T c hTl with rfl | e
    · exact hp
    · unfold Prior at e
      simp only at e
      omega
  · exact .inl rfl
theorem bestF_no {h : HD} {s : Bool} {i b : Nat} (H : BestF h s i b) (hbi : b < i ∨ i = 0 ∧ b = 0) (hp : lone h s i h.n = true → pop i ≤ pop b) : BestF h s (i + 1) b := by
  obtain ⟨h1, h2, h3⟩ := H
  refine ⟨h1, h2, fun T hT hTl => ?_⟩
  rcases Nat.lt_succ_iff_lt_or_eq.1 hT with c | rfl
  · exact h3 T c hTl
  · have := hp hTl
    by_cases e : b = T
    · exact .inl e
    · refine .inr ?_
      unfold Prior
      simp only
      omega
theorem bestF_end {h : HD} (hn : h.n ≤ 7) {s : Bool} {b : Nat} (H : BestF h s (2 ^ h.n) b) : b = prfS h s := by
  obtain ⟨h1, h2, h3⟩ := H
  obtain ⟨g1, g2, g3⟩ := prf_ok h hn s
  rcases h3 _ g1 g2 with e | e
  · exact e
  · rcases g3 b h1 h2 with c | c
    · exact c.symm
    · unfold Prior at e c
      simp only at e c
      omega
theorem t29e (h : HD) (hv : ¬ h.Valid) (s : Bool) : CallP Try.prog 29 [HD.A h, .bool s] (HD.H h) (Ret (.tup [.int .i64 0, .int .i64 1]) (HD.H h)) := by
  have c52 := t52 h true
  rw [vb_no hv] at c52
  refine callR (E := E) E_ok Try.func29 rfl ?_
  (repeat' (first | exact trivial | exact fun _ => rfl | exact rfl | refine And.intro ?_ ?_))
  refine c52.use [0] ?_ (by (repeat' (first | exact trivial | exact rfl | exact fun _ _ => rfl | exact fun _ _ _ _ => rfl | exact Or.inl rfl | exact Or.inr rfl | refine And.intro ?_ ?_))) rfl
  all_goals (repeat' (first | exact trivial | exact fun _ => rfl | exact rfl | refine And.intro ?_ ?_))
  all_goals first | exact True.intro | omega | exact u1 (lt64 (by omega)) | exact u0 (lt64 (by omega)) | (show under _ _; simp [under, gB, wB]; done) | (show under _ _; simp [under, gB, wB]; omega) | skip
  all_goals intro hx
  all_goals first | exact absurd hx (by decide) | (cases hx; done) | skip
  (repeat' (first | exact trivial | exact fun _ => rfl | exact rfl | refine And.intro ?_ ?_))
  exact ent_tau [0] ⟨by (repeat' (first | exact trivial | exact rfl | exact fun _ _ => rfl | exact fun _ _ _ _ => rfl | exact Or.inl rfl | exact Or.inr rfl | refine And.intro ?_ ?_)), by (repeat' (first | exact trivial | exact rfl | exact congrArg (SV.int .i64) (Int.natCast_succ _).symm | exact congrArg (SV.int .u64) (Int.natCast_succ _).symm | refine And.intro ?_ ?_)), rfl⟩
theorem t29 (h : HD) (hv : h.Valid) (s : Bool) : CallP Try.prog 29 [HD.A h, .bool s] (HD.H h) (Ret (.tup [.int .i64 (prfS h s : Nat), .int .i64 0]) (HD.H h)) := by
  have hn7 := hv.2.1
  have c52 := t52 h true
  rw [vb_yes hv] at c52
  have c70 := t70 h (by omega)
  have he := HD.every_lt hn7
  have hep : 2 ^ h.n = h.every + 1 := by
    have := Nat.pow_pos (n := h.n) (show 0 < 2 by omega)
    unfold HD.every
    omega
  have hend : ∀ b, BestF h s (h.every + 1) b → b = prfS h s := fun b hb => bestF_end hn7 (by rw [hep]; exact hb)
  obtain ⟨e, hee⟩ : ∃ e, h.every = e := ⟨_, rfl⟩
  rw [hee] at c70 he hep hend
  refine callR (E := E) E_ok Try.func29 rfl ?_
  (repeat' (first | exact trivial | exact fun _ => rfl | exact rfl | refine And.intro ?_ ?_))
  refine c52.use [0] ?_ (by (repeat' (first | exact trivial | exact rfl | exact fun _ _ => rfl | exact fun _ _ _ _ => rfl | exact Or.inl rfl | exact Or.inr rfl | refine And.intro ?_ ?_))) rfl
  all_goals (repeat' (first | exact trivial | exact fun _ => rfl | exact rfl | refine And.intro ?_ ?_))
  all_goals first | exact True.intro | omega | exact u1 (lt64 (by omega)) | exact u0 (lt64 (by omega)) | (show under _ _; simp [under, gB, wB]; done) | (show under _ _; simp [under, gB, wB]; omega) | skip
  all_goals intro hx
  all_goals first | exact absurd hx (by decide) | (cases hx; done) | skip
  (repeat' (first | exact trivial | exact fun _ => rfl | exact rfl | refine And.intro ?_ ?_))
  refine loopP E_ok [1, 2] (fun g : Nat × Nat => [(7, .int .i64 g.2), (8, .int .i64 g.1)]) (fun _ H => H) (fun g => g.1 ≤ e + 1 ∧ (g.2 < g.1 ∨ g.1 = 0 ∧ g.2 = 0) ∧ BestF h s g.1 g.2) (fun g => e + 1 - g.1) (0, 0) ⟨Nat.zero_le _, .inr ⟨rfl, rfl⟩, bestF_zero h s⟩ ?_ ?_
  · exact ent_tau [0, 1] ⟨by (repeat' (first | exact trivial | exact rfl | exact fun _ _ => rfl | exact fun _ _ _ _ => rfl | exact Or.inl rfl | exact Or.inr rfl | refine And.intro ?_ ?_)), by (repeat' (first | exact trivial | exact rfl | exact congrArg (SV.int .i64) (Int.natCast_succ _).symm | exact congrArg (SV.int .u64) (Int.natCast_succ _).symm | refine And.intro ?_ ?_)), rfl⟩
  rintro ⟨i, b⟩ ⟨hi, hbi, hb⟩
  simp only at hi hbi hb
  (repeat' (first | exact trivial | exact fun _ => rfl | exact rfl | refine And.intro ?_ ?_))
  refine c70.use [0] ?_ (by (repeat' (first | exact trivial | exact rfl | exact fun _ _ => rfl | exact fun _ _ _ _ => rfl | exact Or.inl rfl | exact Or.inr rfl | refine And.intro ?_ ?_))) rfl
  refine And.intro ?_ (And.intro (fun hlt => ?_) (fun hlt => ?_))
  · (repeat' (first | exact trivial | exact fun _ => rfl | exact rfl | refine And.intro ?_ ?_))
  · have hlt' : i < e + 1 := by
      have := of_decide_eq_true hlt
      simp only at this
      omega
    (repeat' (first | exact trivial | exact fun _ => rfl | exact rfl | refine And.intro ?_ ?_))
    refine loopP E_ok [1, 2, 7, 8] (fun g : Nat × Bool => [(9, .bool g.2), (10, .int .i64 g.1)]) (fun _ H => H) (fun g => g.1 ≤ h.n ∧ g.2 = allA h s i g.1) (fun g => h.n - g.1) (0, true) ⟨Nat.zero_le _, rfl⟩ ?_ ?_
    · exact ent_tau [0, 1] ⟨by (repeat' (first | exact trivial | exact rfl | exact fun _ _ => rfl | exact fun _ _ _ _ => rfl | exact Or.inl rfl | exact Or.inr rfl | refine And.intro ?_ ?_)), by (repeat' (first | exact trivial | exact rfl | exact congrArg (SV.int .i64) (Int.natCast_succ _).symm | exact congrArg (SV.int .u64) (Int.natCast_succ _).symm | refine And.intro ?_ ?_)), rfl⟩
    rintro ⟨a, c⟩ ⟨ha, hc⟩
    simp only at ha hc
    refine And.intro ?_ (And.intro (fun hla => ?_) (fun hla => ?_))
    · (repeat' (first | exact trivial | exact fun _ => rfl | exact rfl | refine And.intro ?_ ?_))
    · have hla' : a < h.n := by
        have := of_decide_eq_true hla
        simp only at this
        omega
      (repeat' (first | exact trivial | exact fun _ => rfl | exact rfl | refine And.intro ?_ ?_))
      refine loopP E_ok [1, 2, 7, 8, 10] (fun g : Nat × Bool => [(9, .bool g.2), (11, .int .i64 g.1)]) (fun _ H => H) (fun g => g.1 ≤ a ∧ g.2 = (allA h s i a && allB h s i a g.1)) (fun g => a - g.1) (0, c) ⟨Nat.zero_le _, by simp only [allB, Bool.and_true]; exact hc⟩ ?_ ?_
      · exact ent_tau [0, 1] ⟨by (repeat' (first | exact trivial | exact rfl | exact fun _ _ => rfl | exact fun _ _ _ _ => rfl | exact Or.inl rfl | exact Or.inr rfl | refine And.intro ?_ ?_)), by (repeat' (first | exact trivial | exact rfl | exact congrArg (SV.int .i64) (Int.natCast_succ _).symm | exact congrArg (SV.int .u64) (Int.natCast_succ _).symm | refine And.intro ?_ ?_)), rfl⟩
      rintro ⟨k, d⟩ ⟨hk, hd⟩
      simp only at hk hd
      refine And.intro ?_ (And.intro (fun hlk => ?_) (fun hlk => ?_))
      · (repeat' (first | exact trivial | exact fun _ => rfl | exact rfl | refine And.intro ?_ ?_))
      · have hlk' : k < a := by
          have := of_decide_eq_true hlk
          simp only at this
          omega
        have c1 := t76 i a (by omega) (by omega)
        have c2 := t76 i k (by omega) (by omega)
        have c3 := t58 h hv s a k hla' (by omega)
        have hst : (d && (!i.testBit a || (!i.testBit k || h.apart s a k))) = (allA h s i a && allB h s i a (k + 1)) := by
          rw [allB, ← Bool.and_assoc, ← hd]
          rfl
        obtain ⟨x, hx0⟩ : ∃ x, i.testBit a = x := ⟨_, rfl⟩
        obtain ⟨y, hy0⟩ : ∃ y, i.testBit k = y := ⟨_, rfl⟩
        obtain ⟨z, hz0⟩ : ∃ z, h.apart s a k = z := ⟨_, rfl⟩
        rw [hx0] at c1 hst
        rw [hy0] at c2 hst
        rw [hz0] at c3 hst
        cases d with
        | false =>
          all_goals (repeat' (first | exact trivial | exact fun _ => rfl | exact rfl | refine And.intro ?_ ?_))
          all_goals first | exact True.intro | omega | exact u1 (lt64 (by omega)) | exact u0 (lt64 (by omega)) | (show under _ _; simp [under, gB, wB]; done) | (show under _ _; simp [under, gB, wB]; omega) | skip
          all_goals intro g1
          all_goals first | (exfalso; revert g1; simp [gB, wB]; done) | skip
          all_goals (repeat' (first | exact trivial | exact fun _ => rfl | exact rfl | refine And.intro ?_ ?_))
          all_goals first | exact True.intro | omega | exact u1 (lt64 (by omega)) | exact u0 (lt64 (by omega)) | (show under _ _; simp [under, gB, wB]; done) | (show under _ _; simp [under, gB, wB]; omega) | skip
          all_goals intro g2
          all_goals first | (exfalso; revert g2; simp [gB, wB]; done) | skip
          all_goals (repeat' (first | exact trivial | exact fun _ => rfl | exact rfl | refine And.intro ?_ ?_))
          all_goals first | exact True.intro | omega | exact u1 (lt64 (by omega)) | exact u0 (lt64 (by omega)) | (show under _ _; simp [under, gB, wB]; done) | (show under _ _; simp [under, gB, wB]; omega) | skip
          all_goals intro g3
          all_goals first | (exfalso; revert g3; simp [gB, wB]; done) | skip
          all_goals (repeat' (first | exact trivial | exact fun _ => rfl | exact rfl | refine And.intro ?_ ?_))
          all_goals first | exact True.intro | omega | exact u1 (lt64 (by omega)) | exact u0 (lt64 (by omega)) | (show under _ _; simp [under, gB, wB]; done) | (show under _ _; simp [under, gB, wB]; omega) | skip
          refine ⟨(k + 1, false), ⟨hlk', hst⟩, by simp only; omega, ?_⟩
          exact ent_tau [0, 1] ⟨by (repeat' (first | exact trivial | exact rfl | exact fun _ _ => rfl | exact fun _ _ _ _ => rfl | exact Or.inl rfl | exact Or.inr rfl | refine And.intro ?_ ?_)), by (repeat' (first | exact trivial | exact rfl | exact congrArg (SV.int .i64) (Int.natCast_succ _).symm | exact congrArg (SV.int .u64) (Int.natCast_succ _).symm | refine And.intro ?_ ?_)), rfl⟩
        | true =>
          all_goals (repeat' (first | exact trivial | exact fun _ => rfl | exact rfl | refine And.intro ?_ ?_))
          all_goals first | exact True.intro | omega | exact u1 (lt64 (by omega)) | exact u0 (lt64 (by omega)) | (show under _ _; simp [under, gB, wB]; done) | (show under _ _; simp [under, gB, wB]; omega) | skip
          all_goals intro g1
          all_goals first | (exfalso; revert g1; simp [gB, wB]; done) | skip
          refine c1.use [] ?_ trivial rfl
          cases x with
          | false =>
            all_goals (repeat' (first | exact trivial | exact fun _ => rfl | exact rfl | refine And.intro ?_ ?_))
            all_goals first | exact True.intro | omega | exact u1 (lt64 (by omega)) | exact u0 (lt64 (by omega)) | (show under _ _; simp [under, gB, wB]; done) | (show under _ _; simp [under, gB, wB]; omega) | skip
            all_goals intro g2
            all_goals first | (exfalso; revert g2; simp [gB, wB]; done) | skip
            all_goals (repeat' (first | exact trivial | exact fun _ => rfl | exact rfl | refine And.intro ?_ ?_))
            all_goals first | exact True.intro | omega | exact u1 (lt64 (by omega)) | exact u0 (lt64 (by omega)) | (show under _ _; simp [under, gB, wB]; done) | (show under _ _; simp [under, gB, wB]; omega) | skip
            all_goals intro g3
            all_goals first | (exfalso; revert g3; simp [gB, wB]; done) | skip
            all_goals (repeat' (first | exact trivial | exact fun _ => rfl | exact rfl | refine And.intro ?_ ?_))
            all_goals first | exact True.intro | omega | exact u1 (lt64 (by omega)) | exact u0 (lt64 (by omega)) | (show under _ _; simp [under, gB, wB]; done) | (show under _ _; simp [under, gB, wB]; omega) | skip
            refine ⟨(k + 1, true), ⟨hlk', hst⟩, by simp only; omega, ?_⟩
            exact ent_tau [0, 1] ⟨by (repeat' (first | exact trivial | exact rfl | exact fun _ _ => rfl | exact fun _ _ _ _ => rfl | exact Or.inl rfl | exact Or.inr rfl | refine And.intro ?_ ?_)), by (repeat' (first | exact trivial | exact rfl | exact congrArg (SV.int .i64) (Int.natCast_succ _).symm | exact congrArg (SV.int .u64) (Int.natCast_succ _).symm | refine And.intro ?_ ?_)), rfl⟩
          | true =>
            all_goals (repeat' (first | exact trivial | exact fun _ => rfl | exact rfl | refine And.intro ?_ ?_))
            all_goals first | exact True.intro | omega | exact u1 (lt64 (by omega)) | exact u0 (lt64 (by omega)) | (show under _ _; simp [under, gB, wB]; done) | (show under _ _; simp [under, gB, wB]; omega) | skip
            all_goals intro g2
            all_goals first | (exfalso; revert g2; simp [gB, wB]; done) | skip
            refine c2.use [] ?_ trivial rfl
            cases y with
            | false =>
              all_goals (repeat' (first | exact trivial | exact fun _ => rfl | exact rfl | refine And.intro ?_ ?_))
              all_goals first | exact True.intro | omega | exact u1 (lt64 (by omega)) | exact u0 (lt64 (by omega)) | (show under _ _; simp [under, gB, wB]; done) | (show under _ _; simp [under, gB, wB]; omega) | skip
              all_goals intro g3
              all_goals first | (exfalso; revert g3; simp [gB, wB]; done) | skip
              all_goals (repeat' (first | exact trivial | exact fun _ => rfl | exact rfl | refine And.intro ?_ ?_))
              all_goals first | exact True.intro | omega | exact u1 (lt64 (by omega)) | exact u0 (lt64 (by omega)) | (show under _ _; simp [under, gB, wB]; done) | (show under _ _; simp [under, gB, wB]; omega) | skip
              refine ⟨(k + 1, true), ⟨hlk', hst⟩, by simp only; omega, ?_⟩
              exact ent_tau [0, 1] ⟨by (repeat' (first | exact trivial | exact rfl | exact fun _ _ => rfl | exact fun _ _ _ _ => rfl | exact Or.inl rfl | exact Or.inr rfl | refine And.intro ?_ ?_)), by (repeat' (first | exact trivial | exact rfl | exact congrArg (SV.int .i64) (Int.natCast_succ _).symm | exact congrArg (SV.int .u64) (Int.natCast_succ _).symm | refine And.intro ?_ ?_)), rfl⟩
            | true =>
              all_goals (repeat' (first | exact trivial | exact fun _ => rfl | exact rfl | refine And.intro ?_ ?_))
              all_goals first | exact True.intro | omega | exact u1 (lt64 (by omega)) | exact u0 (lt64 (by omega)) | (show under _ _; simp [under, gB, wB]; done) | (show under _ _; simp [under, gB, wB]; omega) | skip
              all_goals intro g3
              all_goals first | (exfalso; revert g3; simp [gB, wB]; done) | skip
              refine c3.use [0] ?_ (by (repeat' (first | exact trivial | exact rfl | exact fun _ _ => rfl | exact fun _ _ _ _ => rfl | exact Or.inl rfl | exact Or.inr rfl | refine And.intro ?_ ?_))) rfl
              all_goals (repeat' (first | exact trivial | exact fun _ => rfl | exact rfl | refine And.intro ?_ ?_))
              all_goals first | exact True.intro | omega | exact u1 (lt64 (by omega)) | exact u0 (lt64 (by omega)) | (show under _ _; simp [under, gB, wB]; done) | (show under _ _; simp [under, gB, wB]; omega) | skip
              refine ⟨(k + 1, z), ⟨hlk', hst⟩, by simp only; omega, ?_⟩
              exact ent_tau [0, 1] ⟨by (repeat' (first | exact trivial | exact rfl | exact fun _ _ => rfl | exact fun _ _ _ _ => rfl | exact Or.inl rfl | exact Or.inr rfl | refine And.intro ?_ ?_)), by (repeat' (first | exact trivial | exact rfl | exact congrArg (SV.int .i64) (Int.natCast_succ _).symm | exact congrArg (SV.int .u64) (Int.natCast_succ _).symm | refine And.intro ?_ ?_)), rfl⟩
      · have e1 : k = a := by
          have := of_decide_eq_false hlk
          simp only at this
          omega
        subst e1
        all_goals (repeat' (first | exact trivial | exact fun _ => rfl | exact rfl | refine And.intro ?_ ?_))
        all_goals first | exact True.intro | omega | exact u1 (lt64 (by omega)) | exact u0 (lt64 (by omega)) | (show under _ _; simp [under, gB, wB]; done) | (show under _ _; simp [under, gB, wB]; omega) | skip
        refine ⟨(k + 1, d), ⟨hla', hd⟩, by simp only; omega, ?_⟩
        exact ent_tau [0, 1] ⟨by (repeat' (first | exact trivial | exact rfl | exact fun _ _ => rfl | exact fun _ _ _ _ => rfl | exact Or.inl rfl | exact Or.inr rfl | refine And.intro ?_ ?_)), by (repeat' (first | exact trivial | exact rfl | exact congrArg (SV.int .i64) (Int.natCast_succ _).symm | exact congrArg (SV.int .u64) (Int.natCast_succ _).symm | refine And.intro ?_ ?_)), rfl⟩
    · have e1 : a = h.n := by
        have := of_decide_eq_false hla
        simp only at this
        omega
      subst e1
      have hil : i < 2 ^ h.n := by omega
      have hlo : lone h s i h.n = c := by rw [hc, allA_lone hn7 hil]
      have c1 := t42 i (by omega)
      have c2 := t42 b (by have := hb.1; omega)
      obtain ⟨p1, hp1⟩ : ∃ p, pop i = p := ⟨_, rfl⟩
      obtain ⟨p2, hp2⟩ : ∃ p, pop b = p := ⟨_, rfl⟩
      rw [hp1] at c1
      rw [hp2] at c2
      cases c with
      | false =>
        have hno := bestF_no hb hbi (fun q => by rw [hlo] at q; cases q)
        all_goals (repeat' (first | exact trivial | exact fun _ => rfl | exact rfl | refine And.intro ?_ ?_))
        all_goals first | exact True.intro | omega | exact u1 (lt64 (by omega)) | exact u0 (lt64 (by omega)) | (show under _ _; simp [under, gB, wB]; done) | (show under _ _; simp [under, gB, wB]; omega) | skip
        all_goals intro g1
        all_goals first | (exfalso; revert g1; simp [gB, wB]; done) | skip
        all_goals (repeat' (first | exact trivial | exact fun _ => rfl | exact rfl | refine And.intro ?_ ?_))
        all_goals first | exact True.intro | omega | exact u1 (lt64 (by omega)) | exact u0 (lt64 (by omega)) | (show under _ _; simp [under, gB, wB]; done) | (show under _ _; simp [under, gB, wB]; omega) | skip
        all_goals intro g2
        all_goals first | (exfalso; revert g2; simp [gB, wB]; done) | skip
        all_goals (repeat' (first | exact trivial | exact fun _ => rfl | exact rfl | refine And.intro ?_ ?_))
        all_goals first | exact True.intro | omega | exact u1 (lt64 (by omega)) | exact u0 (lt64 (by omega)) | (show under _ _; simp [under, gB, wB]; done) | (show under _ _; simp [under, gB, wB]; omega) | skip
        all_goals intro g3
        all_goals first | exact absurd g3 (by decide) | (cases g3; done) | skip
        all_goals (repeat' (first | exact trivial | exact fun _ => rfl | exact rfl | refine And.intro ?_ ?_))
        all_goals first | exact True.intro | omega | exact u1 (lt64 (by omega)) | exact u0 (lt64 (by omega)) | (show under _ _; simp [under, gB, wB]; done) | (show under _ _; simp [under, gB, wB]; omega) | skip
        refine ⟨(i + 1, b), ⟨hlt', .inl (by simp only; omega), hno⟩, by simp only; omega, ?_⟩
        exact ent_tau [0, 1] ⟨by (repeat' (first | exact trivial | exact rfl | exact fun _ _ => rfl | exact fun _ _ _ _ => rfl | exact Or.inl rfl | exact Or.inr rfl | refine And.intro ?_ ?_)), by (repeat' (first | exact trivial | exact rfl | exact congrArg (SV.int .i64) (Int.natCast_succ _).symm | exact congrArg (SV.int .u64) (Int.natCast_succ _).symm | refine And.intro ?_ ?_)), rfl⟩
      | true =>
        all_goals (repeat' (first | exact trivial | exact fun _ => rfl | exact rfl | refine And.intro ?_ ?_))
        all_goals first | exact True.intro | omega | exact u1 (lt64 (by omega)) | exact u0 (lt64 (by omega)) | (show under _ _; simp [under, gB, wB]; done) | (show under _ _; simp [under, gB, wB]; omega) | skip
        all_goals intro g1
        all_goals first | (exfalso; revert g1; simp [gB, wB]; done) | skip
        refine c1.use [] ?_ trivial rfl
        all_goals (repeat' (first | exact trivial | exact fun _ => rfl | exact rfl | refine And.intro ?_ ?_))
        all_goals first | exact True.intro | omega | exact u1 (lt64 (by omega)) | exact u0 (lt64 (by omega)) | (show under _ _; simp [under, gB, wB]; done) | (show under _ _; simp [under, gB, wB]; omega) | skip
        all_goals intro g2
        all_goals first | (exfalso; revert g2; simp [gB, wB]; done) | skip
        refine c2.use [] ?_ trivial rfl
        by_cases hlt2 : p2 < p1
        · have hyes := bestF_yes hb hil hlo (by omega)
          all_goals (repeat' (first | exact trivial | exact fun _ => rfl | exact rfl | refine And.intro ?_ ?_))
          all_goals first | exact True.intro | omega | exact u1 (lt64 (by omega)) | exact u0 (lt64 (by omega)) | (show under _ _; simp [under, gB, wB]; done) | (show under _ _; simp [under, gB, wB]; omega) | skip
          · intro g3
            all_goals (repeat' (first | exact trivial | exact fun _ => rfl | exact rfl | refine And.intro ?_ ?_))
            all_goals first | exact True.intro | omega | exact u1 (lt64 (by omega)) | exact u0 (lt64 (by omega)) | (show under _ _; simp [under, gB, wB]; done) | (show under _ _; simp [under, gB, wB]; omega) | skip
            refine ⟨(i + 1, i), ⟨hlt', .inl (by simp only; omega), hyes⟩, by simp only; omega, ?_⟩
            exact ent_tau [0, 1] ⟨by (repeat' (first | exact trivial | exact rfl | exact fun _ _ => rfl | exact fun _ _ _ _ => rfl | exact Or.inl rfl | exact Or.inr rfl | refine And.intro ?_ ?_)), by (repeat' (first | exact trivial | exact rfl | exact congrArg (SV.int .i64) (Int.natCast_succ _).symm | exact congrArg (SV.int .u64) (Int.natCast_succ _).symm | refine And.intro ?_ ?_)), rfl⟩
          · intro g3
            exact absurd g3 (by simp; omega)
        · have hno := bestF_no hb hbi (fun _ => by omega)
          all_goals (repeat' (first | exact trivial | exact fun _ => rfl | exact rfl | refine And.intro ?_ ?_))
          all_goals first | exact True.intro | omega | exact u1 (lt64 (by omega)) | exact u0 (lt64 (by omega)) | (show under _ _; simp [under, gB, wB]; done) | (show under _ _; simp [under, gB, wB]; omega) | skip
          · intro g3
            exact absurd g3 (by simp; omega)
          · intro g3
            all_goals (repeat' (first | exact trivial | exact fun _ => rfl | exact rfl | refine And.intro ?_ ?_))
            all_goals first | exact True.intro | omega | exact u1 (lt64 (by omega)) | exact u0 (lt64 (by omega)) | (show under _ _; simp [under, gB, wB]; done) | (show under _ _; simp [under, gB, wB]; omega) | skip
            refine ⟨(i + 1, b), ⟨hlt', .inl (by simp only; omega), hno⟩, by simp only; omega, ?_⟩
            exact ent_tau [0, 1] ⟨by (repeat' (first | exact trivial | exact rfl | exact fun _ _ => rfl | exact fun _ _ _ _ => rfl | exact Or.inl rfl | exact Or.inr rfl | refine And.intro ?_ ?_)), by (repeat' (first | exact trivial | exact rfl | exact congrArg (SV.int .i64) (Int.natCast_succ _).symm | exact congrArg (SV.int .u64) (Int.natCast_succ _).symm | refine And.intro ?_ ?_)), rfl⟩
  · have e1 : i = e + 1 := by
      have := of_decide_eq_false hlt
      simp only at this
      omega
    subst e1
    have e2 := hend b hb
    subst e2
    (repeat' (first | exact trivial | exact fun _ => rfl | exact rfl | refine And.intro ?_ ?_))
    exact ent_tau [0] ⟨by (repeat' (first | exact trivial | exact rfl | exact fun _ _ => rfl | exact fun _ _ _ _ => rfl | exact Or.inl rfl | exact Or.inr rfl | refine And.intro ?_ ?_)), by (repeat' (first | exact trivial | exact rfl | exact congrArg (SV.int .i64) (Int.natCast_succ _).symm | exact congrArg (SV.int .u64) (Int.natCast_succ _).symm | refine And.intro ?_ ?_)), rfl⟩
end Go.Proofs.Ytgofhjihkinknaa
