/-
  Parts: H9, H10, Qa, Qb, Qd, Qc, Qf.
-/
import Derived.Test.YtgofhjihkinknaaK14
import Derived.Test.YtgofhjihkinknaaK25
import Derived.Test.YtgofhjihkinknaaK11
import Derived.Test.YtgofhjihkinknaaK23
set_option linter.unusedVariables false
/-
  Plain law of horses, part 9.
-/
namespace Kuhn
namespace HD
set_option linter.unusedVariables false

/-! ### Plans with other numbers of horses: as they come -/
/-- Does a horse come here for the first time? -/
def fresh (p : Nat → Int) (i : Nat) : Bool := (List.range i).all fun k => !decide (p k = p i)
def usedF (p : Nat → Int) : Nat → Nat
  | 0 => 0
  | n + 1 => usedF p n + match fresh p n with | true => 1 | false => 0
theorem fresh_iff {p : Nat → Int} {i : Nat} : fresh p i = true ↔ ∀ k, k < i → p k ≠ p i := by
  unfold fresh
  rw [List.all_eq_true]
  constructor
  · intro H k hk e
    have := H k (List.mem_range.2 hk)
    rw [decide_eq_true e] at this
    cases this
  · intro H k hk
    rw [decide_eq_false (H k (List.mem_range.1 hk))]
    rfl
theorem fresh_no {p : Nat → Int} {i : Nat} (h : fresh p i = false) : ∃ k, k < i ∧ p k = p i := by
  by_cases c : ∃ k, k < i ∧ p k = p i
  · exact c
  · have : fresh p i = true := fresh_iff.2 fun k hk e => c ⟨k, hk, e⟩
    rw [h] at this
    cases this
theorem usedF_mono {p : Nat → Int} {i : Nat} : ∀ {n : Nat}, i ≤ n → usedF p i ≤ usedF p n
  | 0, h => by rw [Nat.le_zero.1 h]; exact Nat.le_refl _
  | n + 1, h => by
    by_cases c : i ≤ n
    · have := usedF_mono (p := p) c
      rw [usedF]
      omega
    · rw [show i = n + 1 by omega]
      exact Nat.le_refl _
theorem usedF_le (p : Nat → Int) : ∀ n, usedF p n ≤ n
  | 0 => Nat.le_refl _
  | n + 1 => by
    have := usedF_le p n
    rw [usedF]
    split <;> omega
theorem usedF_lt {p : Nat → Int} {i n : Nat} (h : fresh p i = true) (hi : i < n) : usedF p i < usedF p n := by
  have := usedF_mono (p := p) (show i + 1 ≤ n from hi)
  rw [usedF, h] at this
  simp only at this
  omega
open Classical in
/-- The first one that has the same horse. -/
noncomputable def fst (p : Nat → Int) (i : Nat) : Nat := if h : ∃ k, p k = p i ∧ ∀ m, m < k → p m ≠ p i then h.choose else 0
theorem fst_ex (p : Nat → Int) (x : Int) : ∀ n, (∃ k, k < n ∧ p k = x) → ∃ k, k < n ∧ p k = x ∧ ∀ m, m < k → p m ≠ x
  | 0, ⟨k, hk, _⟩ => absurd hk (Nat.not_lt_zero k)
  | n + 1, ⟨k, hk, e⟩ => by
    by_cases c : ∃ k, k < n ∧ p k = x
    · obtain ⟨k', a, b⟩ := fst_ex p x n c
      exact ⟨k', by omega, b⟩
    · have : k = n := by
        by_cases q : k < n
        · exact absurd ⟨k, q, e⟩ c
        · omega
      subst this
      exact ⟨k, hk, e, fun m hm e2 => c ⟨m, hm, e2⟩⟩
theorem fst_is (p : Nat → Int) (i : Nat) : p (fst p i) = p i ∧ ∀ m, m < fst p i → p m ≠ p i := by
  have h : ∃ k, p k = p i ∧ ∀ m, m < k → p m ≠ p i := by
    obtain ⟨k, _, b⟩ := fst_ex p (p i) (i + 1) ⟨i, by omega, rfl⟩
    exact ⟨k, b⟩
  unfold fst
  rw [dif_pos h]
  exact h.choose_spec
theorem fst_le (p : Nat → Int) (i : Nat) : fst p i ≤ i := by
  by_cases c : fst p i ≤ i
  · exact c
  · exact absurd rfl ((fst_is p i).2 i (by omega))
theorem fst_fresh (p : Nat → Int) (i : Nat) : fresh p (fst p i) = true := fresh_iff.2 fun k hk e => (fst_is p i).2 k hk (e.trans (fst_is p i).1)
theorem fst_same {p : Nat → Int} {i k : Nat} (h : p i = p k) : fst p i = fst p k := by
  have a := fst_is p i
  have b := fst_is p k
  rcases Nat.lt_trichotomy (fst p i) (fst p k) with c | c | c
  · exact absurd (a.1.trans h) (b.2 _ c)
  · exact c
  · exact absurd (b.1.trans h.symm) (a.2 _ c)
theorem fst_self {p : Nat → Int} {i : Nat} (h : fresh p i = true) : fst p i = i := by
  have a := fst_is p i
  have b := fst_le p i
  by_cases c : fst p i = i
  · exact c
  · exact absurd a.1 (fresh_iff.1 h _ (by omega))
/-- Horses numbered as they come. -/
noncomputable def canon (p : Nat → Int) (i : Nat) : Int := (usedF p (fst p i) : Nat)
theorem canon_same {p : Nat → Int} {i k : Nat} (h : p i = p k) : canon p i = canon p k := by
  unfold canon
  rw [fst_same h]
theorem canon_eq {p : Nat → Int} {i k : Nat} (h : canon p i = canon p k) : p i = p k := by
  unfold canon at h
  have h' : usedF p (fst p i) = usedF p (fst p k) := by omega
  rcases Nat.lt_trichotomy (fst p i) (fst p k) with c | c | c
  · have := usedF_lt (fst_fresh p i) c
    omega
  · rw [← (fst_is p i).1, c, (fst_is p k).1]
  · have := usedF_lt (fst_fresh p k) c
    omega
theorem canon_lt {p : Nat → Int} {i n : Nat} (hi : i < n) : 0 ≤ canon p i ∧ canon p i < usedF p n := by
  have := usedF_lt (n := n) (fst_fresh p i) (by have := fst_le p i; omega)
  unfold canon
  omega
theorem canon_fresh {p : Nat → Int} {i : Nat} (h : fresh p i = true) : canon p i = usedF p i := by
  unfold canon
  rw [fst_self h]
theorem canon_old {p : Nat → Int} {i : Nat} (h : fresh p i = false) : canon p i < usedF p i := by
  obtain ⟨k, hk, e⟩ := fresh_no h
  rw [← canon_same e]
  exact (canon_lt hk).2
/-- All numbers below are used. -/
theorem canon_all {p : Nat → Int} {v : Nat} : ∀ {n : Nat}, v < usedF p n → ∃ k, k < n ∧ canon p k = v
  | 0, h => absurd h (Nat.not_lt_zero _)
  | n + 1, h => by
    by_cases c : v < usedF p n
    · obtain ⟨k, hk, e⟩ := canon_all c
      exact ⟨k, by omega, e⟩
    · cases f : fresh p n with
      | false =>
        rw [usedF, f] at h
        exact absurd h c
      | true =>
        rw [usedF, f] at h
        simp only at h
        refine ⟨n, by omega, ?_⟩
        rw [canon_fresh f]
        omega
/-- At the first difference less, or none. -/
def LeX (n : Nat) (p q : Nat → Int) : Prop := ∀ i, i < n → (∀ k, k < i → p k = q k) → p i ≤ q i
theorem LeX.trans {n : Nat} {p q r : Nat → Int} (h : LeX n p q) (h' : LeX n q r) : LeX n p r := by
  intro i hi he
  have key : ∀ m, m ≤ i → ∀ k, k < m → p k = q k := by
    intro m
    induction m with
    | zero => intro _ k hk; omega
    | succ m ih =>
      intro hm k hk
      by_cases c : k = m
      · subst c
        have a := h k (by omega) (ih (by omega))
        have b := h' k (by omega) fun j hj => by rw [← ih (by omega) j hj]; exact he j (by omega)
        have := he k (by omega)
        omega
      · exact ih (by omega) k (by omega)
  have a := h i hi (key i (Nat.le_refl i))
  have b := h' i hi fun j hj => by rw [← key i (Nat.le_refl i) j hj]; exact he j hj
  omega
theorem LeX.same {n : Nat} {p q : Nat → Int} (h : LeX n p q) (h' : LeX n q p) : ∀ m, m ≤ n → ∀ k, k < m → p k = q k := by
  intro m
  induction m with
  | zero => intro _ k hk; omega
  | succ m ih =>
    intro hm k hk
    by_cases c : k = m
    · subst c
      have a := h k (by omega) (ih (by omega))
      have b := h' k (by omega) fun j hj => (ih (by omega) j hj).symm
      omega
    · exact ih (by omega) k (by omega)
theorem LeX.of_lex {A B : List Int} (h : Lex A B) (hl : A.length = B.length) : LeX A.length (fun i => A.getD i 0) (fun i => B.getD i 0) := by
  rcases h with rfl | ⟨i, hA, hB, ht, hlt⟩
  · exact fun i _ _ => Int.le_refl _
  · intro j hj he
    have gd : ∀ k, k < i → A.getD k 0 = B.getD k 0 := fun k hk => by
      have := congrArg (fun l => l.getD k 0) ht
      simpa [List.getD_eq_getElem?_getD, List.getElem?_take, hk] using this
    rcases Nat.lt_trichotomy j i with c | c | c
    · exact Int.le_of_eq (gd j c)
    · subst c
      exact Int.le_of_lt hlt
    · exact absurd (he i c) (Int.ne_of_lt hlt)
/-- Numbered as they come is least. -/
theorem canon_least {p : Nat → Int} {n : Nat} (h0 : ∀ i, i < n → 0 ≤ p i) : LeX n (canon p) p := by
  intro i hi he
  cases f : fresh p i with
  | false =>
    obtain ⟨k, hk, e⟩ := fresh_no f
    have := he k hk
    rw [canon_same e, e] at this
    exact Int.le_of_eq this
  | true =>
    rw [canon_fresh f]
    have h1 := h0 i hi
    by_cases c : ((usedF p i : Nat) : Int) ≤ p i
    · exact c
    · obtain ⟨k, hk, e⟩ := canon_all (p := p) (v := (p i).toNat) (n := i) (by omega)
      have := he k hk
      have hne := fresh_iff.1 f k hk
      omega
theorem canon_right {h : HD} {s : Bool} {ok : Nat → Bool} {p : Nat → Int} (H : h.Right s ok p) : h.Right s ok (canon p) :=
  fun i k hi hk oi ok' hne e => H i k hi hk oi ok' hne (canon_eq e)
theorem used_le {h : HD} (hv : h.Valid) {s : Bool} {p : Nat → Int} (H : h.Right s full p) : h.few s ≤ usedF p h.n :=
  need_le hv (canon_right H) fun i hi _ => canon_lt hi
theorem usedF_top {p : Nat → Int} {m : Nat} : ∀ {n : Nat}, (∀ i, i < n → 0 ≤ p i ∧ p i < m) → usedF p n ≤ m := by
  intro n h
  have a : cnt (fun i => fresh p i) n = usedF p n := by
    clear h
    induction n with
    | zero => rfl
    | succ n ih =>
      rw [cnt, ih, usedF]
      cases fresh p n <;> rfl
  rw [← a]
  have := cnt_inj (p := fun i => fresh p i) (fun i => (p i).toNat) (m := m) n (fun _ => true) (fun r hr _ => ⟨by
    have := h r hr
    omega, rfl⟩) (fun r t hr ht b1 b2 e => by
      have a1 := h r hr
      have a2 := h t ht
      have e2 : p r = p t := by omega
      rcases Nat.lt_trichotomy r t with c | c | c
      · exact absurd e2 (fresh_iff.1 b2 r c)
      · exact c
      · exact absurd e2.symm (fresh_iff.1 b1 t c))
  rwa [cnt_full] at this
def planF (h : HD) (s : Bool) (k : Nat) : Int := (h.plan s).getD k 0
theorem plan_head {h : HD} (hv : h.Valid) (s : Bool) : (h.ways s full (h.few s) h.n []).head? = some (h.plan s) := by
  cases hw : h.ways s full (h.few s) h.n [] with
  | nil => exact absurd hw ((ways_ne hv s full (h.few s)).2 (Nat.le_refl _))
  | cons a l =>
    unfold plan
    rw [hw]
    rfl
theorem plan_ok {h : HD} (hv : h.Valid) (s : Bool) : OkL h s full (h.few s) (h.plan s) ∧ (h.plan s).length = h.n := by
  obtain ⟨a, b, _⟩ := ways_sub h.n [] OkL.nil _ (List.mem_of_head? (plan_head hv s))
  exact ⟨a, by simpa using b⟩
theorem planF_lt {h : HD} (hv : h.Valid) (s : Bool) {i : Nat} (hi : i < h.n) : 0 ≤ h.planF s i ∧ h.planF s i < h.few s := by
  obtain ⟨a, b⟩ := plan_ok hv s
  exact a.yes i (by omega) rfl
theorem planF_right {h : HD} (hv : h.Valid) (s : Bool) : h.Right s full (h.planF s) := by
  obtain ⟨a, b⟩ := plan_ok hv s
  intro i k hi hk _ _ hne e
  rcases Nat.lt_or_gt_of_ne hne with c | c
  · rw [apart_comm]
    exact a.right i k c (by omega) rfl e
  · exact a.right k i c (by omega) rfl e.symm
theorem planF_used {h : HD} (hv : h.Valid) (s : Bool) : usedF (h.planF s) h.n = h.few s :=
  Nat.le_antisymm (usedF_top fun i hi => planF_lt hv s hi) (used_le hv (planF_right hv s))
/-- The plan is the least of those that are right with as many horses. -/
theorem planF_least {h : HD} (hv : h.Valid) {s : Bool} {p : Nat → Int} (H : h.Right s full p) (h0 : ∀ i, i < h.n → 0 ≤ p i) (hu : usedF p h.n = h.few s) : LeX h.n (h.planF s) p := by
  obtain ⟨a, b⟩ := plan_ok hv s
  have R := canon_right H
  have hm : ofP h.n (canon p) ∈ h.ways s full (h.few s) h.n [] := by
    refine ways_all ⟨fun k hk _ => ?_, fun k hk oi => Bool.noConfusion (show true = false from oi), fun i k hik hk _ e => ?_⟩ h.n [] (by simp [ofP]) rfl
    · rw [ofP_len] at hk
      rw [ofP_get hk, ← hu]
      exact canon_lt hk
    · rw [ofP_len] at hk
      rw [ofP_get hk, ofP_get (by omega)] at e
      rw [apart_comm]
      exact R i k (by omega) hk rfl rfl (by omega) e
  have l := ways_least h.n [] OkL.nil _ _ (plan_head hv s) hm
  have l2 := LeX.of_lex l (by rw [b, ofP_len])
  rw [b] at l2
  refine LeX.trans (q := canon p) ?_ (canon_least h0)
  intro i hi he
  have l3 := l2 i hi (fun k hk => (he k hk).trans (ofP_get (by omega)).symm)
  exact Int.le_trans l3 (Int.le_of_eq (ofP_get hi))
/-- Its horses are numbered as they come. -/
theorem planF_canon {h : HD} (hv : h.Valid) (s : Bool) {i : Nat} (hi : i < h.n) : h.planF s i = canon (h.planF s) i := by
  have hc : usedF (canon (h.planF s)) h.n = h.few s := by
    have e : ∀ n, usedF (canon (h.planF s)) n = usedF (h.planF s) n := by
      intro n
      induction n with
      | zero => rfl
      | succ n ih =>
        have : fresh (canon (h.planF s)) n = fresh (h.planF s) n := by
          rw [Bool.eq_iff_iff, fresh_iff, fresh_iff]
          exact ⟨fun H k hk e => H k hk (canon_same e), fun H k hk e => H k hk (canon_eq e)⟩
        rw [usedF, usedF, ih, this]
    rw [e]
    exact planF_used hv s
  exact LeX.same (planF_least hv (canon_right (planF_right hv s)) (fun i hi => (canon_lt hi).1) hc) (canon_least fun i hi => (planF_lt hv s hi).1) h.n (Nat.le_refl _) i hi
theorem next_fresh {h : HD} (hv : h.Valid) (s : Bool) {i : Nat} (hi : i < h.n) : h.planF s i ≤ usedF (h.planF s) i ∧ max ((usedF (h.planF s) i : Nat) : Int) (h.planF s i + 1) = (usedF (h.planF s) (i + 1) : Nat) := by
  have e := planF_canon hv s hi
  rw [usedF]
  cases f : fresh (h.planF s) i with
  | true =>
    have := canon_fresh f
    simp only
    omega
  | false =>
    have := canon_old f
    simp only
    omega
end HD
end Kuhn
/-
  Plain law of horses, part 10.
-/
namespace Kuhn
namespace HD
set_option linter.unusedVariables false

/-! ### Fewer moves, other moves -/
theorem need_mono {h : HD} (hv : h.Valid) {s : Bool} {ok ok' : Nat → Bool} (hs : ∀ i, i < h.n → ok i = true → ok' i = true) : h.need s ok ≤ h.need s ok' := by
  obtain ⟨p, a, b⟩ := need_plan hv s ok'
  exact need_le hv (p := p) (fun i k hi hk oi ok'' hne e => b i k hi hk (hs i hi oi) (hs k hk ok'') hne e) fun i hi oi => a i hi (hs i hi oi)
theorem need_congr {h : HD} (hv : h.Valid) {s : Bool} {ok ok' : Nat → Bool} (hs : ∀ i, i < h.n → ok i = ok' i) : h.need s ok = h.need s ok' :=
  Nat.le_antisymm (need_mono hv fun i hi e => by rw [← hs i hi]; exact e) (need_mono hv fun i hi e => by rw [hs i hi]; exact e)
/-- The moves of one beach are some of those of another one. -/
structure Emb (x h : HD) (s : Bool) (e : Nat → Nat) : Prop where
  lt : ∀ a, a < x.n → e a < h.n
  inj : ∀ a b, a < x.n → b < x.n → e a = e b → a = b
  can : ∀ a b, a < x.n → b < x.n → x.can s a b = h.can s (e a) (e b)
def img (x : HD) (e : Nat → Nat) (j : Nat) : Bool := (List.range x.n).any fun a => decide (e a = j)
theorem img_iff {x : HD} {e : Nat → Nat} {j : Nat} : img x e j = true ↔ ∃ a, a < x.n ∧ e a = j := by
  simp [img]
theorem Emb.apart {x h : HD} {s : Bool} {e : Nat → Nat} (H : Emb x h s e) {a b : Nat} (ha : a < x.n) (hb : b < x.n) : x.apart s a b = h.apart s (e a) (e b) := by
  unfold HD.apart
  rw [H.can a b ha hb, H.can b a hb ha]
open Classical in
noncomputable def inv (x : HD) (e : Nat → Nat) (j : Nat) : Nat := if h : ∃ a, a < x.n ∧ e a = j then h.choose else 0
theorem inv_is {x : HD} {e : Nat → Nat} {j : Nat} (h : img x e j = true) : inv x e j < x.n ∧ e (inv x e j) = j := by
  have h' := img_iff.1 h
  unfold inv
  rw [dif_pos h']
  exact h'.choose_spec
theorem Emb.need {x h : HD} {s : Bool} {e : Nat → Nat} (H : Emb x h s e) (hx : x.Valid) (hv : h.Valid) : x.few s = h.need s (img x e) := by
  apply Nat.le_antisymm
  · obtain ⟨p, a, b⟩ := need_plan hv s (img x e)
    have im : ∀ a, a < x.n → img x e (e a) = true := fun a ha => img_iff.2 ⟨a, ha, rfl⟩
    exact need_le hx (p := fun i => p (e i)) (fun i k hi hk _ _ hne q => by
      rw [H.apart hi hk]
      exact b _ _ (H.lt i hi) (H.lt k hk) (im i hi) (im k hk) (fun c => hne (H.inj i k hi hk c)) q) fun i hi _ => a _ (H.lt i hi) (im i hi)
  · obtain ⟨p, a, b⟩ := need_plan hx s full
    refine need_le hv (p := fun j => p (inv x e j)) (fun i k hi hk oi ok' hne q => ?_) fun i hi oi => a _ (inv_is oi).1 rfl
    obtain ⟨i1, i2⟩ := inv_is oi
    obtain ⟨k1, k2⟩ := inv_is ok'
    have := b _ _ i1 k1 rfl rfl (fun c => hne (by rw [← i2, ← k2, c])) q
    rw [H.apart i1 k1, i2, k2] at this
    exact this
/-- The same moves, otherwise numbered. -/
theorem Emb.few {x h : HD} {s : Bool} {e : Nat → Nat} (H : Emb x h s e) (hx : x.Valid) (hv : h.Valid) (hall : ∀ j, j < h.n → ∃ a, a < x.n ∧ e a = j) : x.few s = h.few s := by
  rw [H.need hx hv]
  exact need_congr hv fun i hi => img_iff.2 (hall i hi)
end HD
end Kuhn
/-
  Contracts: far, fine, plans by numbers.
-/
namespace Go.Proofs.Ytgofhjihkinknaa
open Go Go.Sy Kuhn
set_option linter.unusedSimpArgs false
set_option maxRecDepth 100000
set_option maxHeartbeats 4000000
attribute [local irreducible] CallP CodeP Ent YieldP
attribute [local irreducible] HD.ch maskO

theorem lt64 {k : Int} (h : k < 64) : k < ((IntKind.bits .i64 : Nat) : Int) := h
theorem t14 (h : HD) : CallP Try.prog 14 [HD.A h, .snil] (HD.H h) (Ret (.bool (decide (40 < h.n))) (HD.H h)) := by
  refine callR (E := E) E_ok Try.func14 rfl ?_
  (repeat' (first | exact trivial | exact fun _ => rfl | exact rfl | refine And.intro ?_ ?_))
  all_goals first | (first | omega | exact u0 (by omega) | exact u1 (by omega) | exact u1 ⟨by omega, by omega⟩ | exact un (by omega) | exact fun hh => hh | exact fun hh => absurd hh (by decide) | exact fun hh => congrArg not hh | exact fun hh => Bool.noConfusion (show true = false from hh) | exact fun hh => Bool.noConfusion (show false = true from hh)) | skip
  refine ent_tau [0] ⟨by (repeat' (first | exact trivial | exact rfl | exact fun _ _ => rfl | exact fun _ _ _ _ => rfl | exact Or.inl rfl | exact Or.inr rfl | refine And.intro ?_ ?_)), ⟨rfl, ?_, trivial⟩, rfl⟩
  refine congrArg SV.bool ?_
  by_cases c : 40 < h.n
  · rw [decide_eq_true c]
    exact decide_eq_true (by split <;> omega)
  · rw [decide_eq_false c]
    exact decide_eq_false (by split <;> omega)
theorem t33 (h : HD) : CallP Try.prog 33 [HD.A h] (HD.H h) (Ret (.bool (vb h)) (HD.H h)) := by
  obtain ⟨b, hb⟩ : ∃ b, decide (40 < h.n) = b := ⟨_, rfl⟩
  have c14 := t14 h
  have c37 := t37 h
  rw [hb] at c14
  refine callR (E := E) E_ok Try.func33 rfl ?_
  (repeat' (first | exact trivial | exact fun _ => rfl | exact rfl | refine And.intro ?_ ?_))
  refine c14.use [0] ?_ (by (repeat' (first | exact trivial | exact rfl | exact fun _ _ => rfl | exact fun _ _ _ _ => rfl | exact Or.inl rfl | exact Or.inr rfl | refine And.intro ?_ ?_))) rfl
  cases b with
  | true =>
    rw [vb_no fun hv => by
      have := hv.2.1
      have := of_decide_eq_true hb
      omega]
    (repeat' (first | exact trivial | exact fun _ => rfl | exact rfl | refine And.intro ?_ ?_))
    all_goals first | (first | omega | exact u0 (by omega) | exact u1 (by omega) | exact u1 ⟨by omega, by omega⟩ | exact un (by omega) | exact fun hh => hh | exact fun hh => absurd hh (by decide) | exact fun hh => congrArg not hh | exact fun hh => Bool.noConfusion (show true = false from hh) | exact fun hh => Bool.noConfusion (show false = true from hh)) | skip
    intro _
    (repeat' (first | exact trivial | exact fun _ => rfl | exact rfl | refine And.intro ?_ ?_))
    all_goals first | exact u0 (fun h => absurd h (by decide)) | skip
    exact ent_tau [0] ⟨by (repeat' (first | exact trivial | exact rfl | exact fun _ _ => rfl | exact fun _ _ _ _ => rfl | exact Or.inl rfl | exact Or.inr rfl | refine And.intro ?_ ?_)), by (repeat' (first | exact trivial | exact rfl | exact congrArg (SV.int .i64) (Int.natCast_succ _).symm | exact congrArg (SV.int .u64) (Int.natCast_succ _).symm | refine And.intro ?_ ?_)), rfl⟩
  | false =>
    (repeat' (first | exact trivial | exact fun _ => rfl | exact rfl | refine And.intro ?_ ?_))
    all_goals first | (first | omega | exact u0 (by omega) | exact u1 (by omega) | exact u1 ⟨by omega, by omega⟩ | exact un (by omega) | exact fun hh => hh | exact fun hh => absurd hh (by decide) | exact fun hh => congrArg not hh | exact fun hh => Bool.noConfusion (show true = false from hh) | exact fun hh => Bool.noConfusion (show false = true from hh)) | skip
    intro _
    refine c37.use [0] ?_ (by (repeat' (first | exact trivial | exact rfl | exact fun _ _ => rfl | exact fun _ _ _ _ => rfl | exact Or.inl rfl | exact Or.inr rfl | refine And.intro ?_ ?_))) rfl
    (repeat' (first | exact trivial | exact fun _ => rfl | exact rfl | refine And.intro ?_ ?_))
    exact ent_tau [0] ⟨by (repeat' (first | exact trivial | exact rfl | exact fun _ _ => rfl | exact fun _ _ _ _ => rfl | exact Or.inl rfl | exact Or.inr rfl | refine And.intro ?_ ?_)), by (repeat' (first | exact trivial | exact rfl | exact congrArg (SV.int .i64) (Int.natCast_succ _).symm | exact congrArg (SV.int .u64) (Int.natCast_succ _).symm | refine And.intro ?_ ?_)), rfl⟩
def BDF (y : PD) (k : Nat) : List SV := [.int .u8 (y.p k)]
def BOk (y : PD) : Prop := ∀ k, k < y.n → 0 ≤ y.p k ∧ y.p k ≤ 255
/-- A plan by numbers. -/
def mkP (y : PD) (i : Nat) : Int := if y.n = 0 then 0 else (y.p (i % y.n)).tmod 7
theorem mkP_rng {y : PD} (hy : BOk y) (i : Nat) : 0 ≤ mkP y i ∧ mkP y i ≤ 6 := by
  unfold mkP
  split
  · omega
  · rename_i h
    have := hy (i % y.n) (Nat.mod_lt _ (by omega))
    have a := Int.tmod_nonneg 7 this.1
    have b := Int.tmod_lt_of_pos (y.p (i % y.n)) (show (0 : Int) < 7 by omega)
    omega
def K34 (h : HD) (y : PD) : CE → SHeap → Prop := fun ce h' =>
  (h.n = 0 ∧ ce = .ret .snil ∧ h' = HD.H h ++ [some (.roa 1 y.n (BDF y))]) ∨
  (∃ k cap, h.n = k + 1 ∧ h.n ≤ cap ∧ cap ≤ 9223372036854775807 ∧ ce = .ret (.slice 2 1 0 (k + 1) cap) ∧ h' = HD.H h ++ [some (.roa 1 y.n (BDF y)), some (.arr 1 (k + 1) cap fun i => [.int .i64 (mkP y i)])])
theorem mk_eq {y : PD} (h : 0 < y.n) (k : Nat) : (y.p (0 + (((k : Nat) : Int).tmod (y.n : Nat)).toNat)).tmod 7 = mkP y k := by
  unfold mkP
  have e : ((k : Nat) : Int).tmod (y.n : Nat) = ((k % y.n : Nat) : Int) := by
    rw [Int.tmod_eq_emod_of_nonneg (by omega)]
    rfl
  rw [if_neg (by omega), e, Int.toNat_natCast, Nat.zero_add]
theorem mk_zero {y : PD} (h : y.n = 0) (k : Nat) : (0 : Int) = mkP y k := by
  unfold mkP
  rw [if_pos h]
theorem rem_lt {y : PD} (h : 0 < y.n) (k : Nat) : 0 ≤ (((k : Nat) : Int).tmod (y.n : Nat)) ∧ (((k : Nat) : Int).tmod (y.n : Nat)) < (y.n : Nat) :=
  ⟨Int.tmod_nonneg _ (by omega), Int.tmod_lt_of_pos _ (by omega)⟩
theorem app1 (f : Nat → Int) (k : Nat) (x : Int) (hx : x = f (k + 1)) : ∀ i, i < k + 1 + 1 → selL (decide (i < k + 1)) [SV.int .i64 (f i)] (getOf 1 (splice (repL 1 [SV.int .i64 0]) (0 * 1) [SV.int .i64 x]) (0 + (i - (k + 1)))) = [SV.int .i64 (f i)] := by
  intro i hi
  by_cases c : i < k + 1
  · rw [decide_eq_true c, selL_true]
  · have e : i = k + 1 := by omega
    subst e
    rw [decide_eq_false c, selL_false, Nat.sub_self, hx]
    rfl
theorem t34 (h : HD) (hv : h.Valid) (y : PD) (hy : BOk y) (hyn : y.n ≤ 9223372036854775807) : CallP Try.prog 34 [HD.A h, .osl y.b 1 1 y.n y.cap] (HD.H h ++ [some (.roa 1 y.n (BDF y))]) (K34 h y) := by
  have hn := hv.2.1
  refine callK (E := E) E_ok Try.func34 rfl ?_
  (repeat' (first | exact trivial | exact fun _ => rfl | exact rfl | refine And.intro ?_ ?_))
  refine loopP E_ok [1, 2, 9, 10] (fun g : Nat × Nat => match g.1 with | 0 => [(5, .snil), (11, .int .i64 0)] | k + 1 => [(5, .slice 3 1 0 (k + 1) g.2), (11, .int .i64 (k + 1 : Nat))])
    (fun g _ => match g.1 with | 0 => HD.H h ++ [some (.roa 1 y.n (BDF y)), some (.cells (bc h))] | k + 1 => HD.H h ++ [some (.roa 1 y.n (BDF y)), some (.cells (bc h)), some (.arr 1 (k + 1) g.2 fun i => [.int .i64 (mkP y i)])]) (fun g => g.1 ≤ h.n ∧ (0 < g.1 → g.1 ≤ g.2 ∧ g.2 ≤ 9223372036854775807)) (fun g => h.n - g.1) (0, 0) ⟨Nat.zero_le _, fun h => absurd h (Nat.lt_irrefl 0)⟩ ?_ ?_
  · exact ent_tau [0, 1, 2] ⟨by (repeat' (first | exact trivial | exact rfl | exact fun _ _ => rfl | exact fun _ _ _ _ => rfl | exact Or.inl rfl | exact Or.inr rfl | refine And.intro ?_ ?_)), by (repeat' (first | exact trivial | exact rfl | exact congrArg (SV.int .i64) (Int.natCast_succ _).symm | exact congrArg (SV.int .u64) (Int.natCast_succ _).symm | refine And.intro ?_ ?_)), rfl⟩
  rintro ⟨k, cap⟩ ⟨hk, hcap⟩
  simp only at hk hcap
  have hrem := fun h0 => rem_lt (y := y) h0 k
  have hmk := fun h0 => mk_eq (y := y) h0 k
  have hmz := fun h0 => mk_zero (y := y) h0 k
  cases k with
  | zero =>
    refine And.intro ?_ (And.intro (fun hc => ?_) (fun hc => ?_))
    · (repeat' (first | exact trivial | exact fun _ => rfl | exact rfl | refine And.intro ?_ ?_))
    · have hlt : 0 < h.n := by
        have := of_decide_eq_true hc
        omega
      (repeat' (first | exact trivial | exact fun _ => rfl | exact rfl | refine And.intro ?_ ?_))
      all_goals first | (first | omega | exact u0 (by omega) | exact u1 (by omega) | exact u1 ⟨by omega, by omega⟩ | exact un (by omega) | exact fun hh => hh | exact fun hh => absurd hh (by decide) | exact fun hh => congrArg not hh | exact fun hh => Bool.noConfusion (show true = false from hh) | exact fun hh => Bool.noConfusion (show false = true from hh)) | skip
      · intro hx
        have hy0 : 0 < y.n := by
          have hx2 : decide ((y.n : Int) > 0) = true := hx
          have := of_decide_eq_true hx2
          omega
        have hrm : 0 ≤ (0 : Int).tmod (y.n : Nat) ∧ (0 : Int).tmod (y.n : Nat) < (y.n : Nat) := hrem hy0
        have hr8 := hy (0 + ((0 : Int).tmod (y.n : Nat)).toNat) (by omega)
        (repeat' (first | exact trivial | exact fun _ => rfl | exact rfl | refine And.intro ?_ ?_))
        all_goals first | (first | omega | exact u0 (by omega) | exact u1 (by omega) | exact u1 ⟨by omega, by omega⟩ | exact un (by omega) | exact fun hh => hh | exact fun hh => absurd hh (by decide) | exact fun hh => congrArg not hh | exact fun hh => Bool.noConfusion (show true = false from hh) | exact fun hh => Bool.noConfusion (show false = true from hh)) | exact u0 (by omega) | decide | (show (_ : Int) ≤ _; omega) | skip
        intro c5 h51 h52
        (repeat' (first | exact trivial | exact fun _ => rfl | exact rfl | refine And.intro ?_ ?_))
        all_goals first | (first | omega | exact u0 (by omega) | exact u1 (by omega) | exact u1 ⟨by omega, by omega⟩ | exact un (by omega) | exact fun hh => hh | exact fun hh => absurd hh (by decide) | exact fun hh => congrArg not hh | exact fun hh => Bool.noConfusion (show true = false from hh) | exact fun hh => Bool.noConfusion (show false = true from hh)) | exact u0 (by omega) | skip
        refine ⟨(0 + 1, c5), ⟨hlt, fun _ => ⟨h51, h52⟩⟩, by simp only; omega, ?_⟩
        refine ent_tau [0, 1, 2, 4] ⟨?_, by (repeat' (first | exact trivial | exact rfl | exact congrArg (SV.int .i64) (Int.natCast_succ _).symm | exact congrArg (SV.int .u64) (Int.natCast_succ _).symm | refine And.intro ?_ ?_)), rfl⟩
        (repeat' (first | exact trivial | exact rfl | exact fun _ _ => rfl | exact fun _ _ _ _ => rfl | exact Or.inl rfl | exact Or.inr rfl | refine And.intro ?_ ?_))
        exact fun i hi => by
          have h0 : i = 0 := Nat.lt_one_iff.1 hi
          subst h0
          exact congrArg (fun z => [SV.int .i64 z]) (hmk hy0)
      · intro hx
        have hy0 : y.n = 0 := by
          have hx2 : decide ((y.n : Int) > 0) = false := hx
          have := of_decide_eq_false hx2
          omega
        (repeat' (first | exact trivial | exact fun _ => rfl | exact rfl | refine And.intro ?_ ?_))
        all_goals first | (first | omega | exact u0 (by omega) | exact u1 (by omega) | exact u1 ⟨by omega, by omega⟩ | exact un (by omega) | exact fun hh => hh | exact fun hh => absurd hh (by decide) | exact fun hh => congrArg not hh | exact fun hh => Bool.noConfusion (show true = false from hh) | exact fun hh => Bool.noConfusion (show false = true from hh)) | decide | skip
        intro c5 h51 h52
        (repeat' (first | exact trivial | exact fun _ => rfl | exact rfl | refine And.intro ?_ ?_))
        all_goals first | (first | omega | exact u0 (by omega) | exact u1 (by omega) | exact u1 ⟨by omega, by omega⟩ | exact un (by omega) | exact fun hh => hh | exact fun hh => absurd hh (by decide) | exact fun hh => congrArg not hh | exact fun hh => Bool.noConfusion (show true = false from hh) | exact fun hh => Bool.noConfusion (show false = true from hh)) | exact u0 (by omega) | skip
        refine ⟨(0 + 1, c5), ⟨hlt, fun _ => ⟨h51, h52⟩⟩, by simp only; omega, ?_⟩
        refine ent_tau [0, 1, 2, 4] ⟨?_, by (repeat' (first | exact trivial | exact rfl | exact congrArg (SV.int .i64) (Int.natCast_succ _).symm | exact congrArg (SV.int .u64) (Int.natCast_succ _).symm | refine And.intro ?_ ?_)), rfl⟩
        (repeat' (first | exact trivial | exact rfl | exact fun _ _ => rfl | exact fun _ _ _ _ => rfl | exact Or.inl rfl | exact Or.inr rfl | refine And.intro ?_ ?_))
        exact fun i hi => by
          have h0 : i = 0 := Nat.lt_one_iff.1 hi
          subst h0
          exact congrArg (fun z => [SV.int .i64 z]) ((show Int.tmod 0 7 = 0 by decide).trans (hmz hy0))
    · have h0 : h.n = 0 := by
        have := of_decide_eq_false hc
        omega
      (repeat' (first | exact trivial | exact fun _ => rfl | exact rfl | refine And.intro ?_ ?_))
      refine ⟨.ret .snil, _, .inl ⟨h0, rfl, rfl⟩, ?_⟩
      exact ent_tau [0, 1] ⟨by (repeat' (first | exact trivial | exact rfl | exact fun _ _ => rfl | exact fun _ _ _ _ => rfl | exact Or.inl rfl | exact Or.inr rfl | refine And.intro ?_ ?_)), by (repeat' (first | exact trivial | exact rfl | exact congrArg (SV.int .i64) (Int.natCast_succ _).symm | exact congrArg (SV.int .u64) (Int.natCast_succ _).symm | refine And.intro ?_ ?_)), rfl⟩
  | succ k =>
    refine And.intro ?_ (And.intro (fun hc => ?_) (fun hc => ?_))
    · (repeat' (first | exact trivial | exact fun _ => rfl | exact rfl | refine And.intro ?_ ?_))
    · have hlt : k + 1 < h.n := by
        have := of_decide_eq_true hc
        omega
      obtain ⟨hc1, hc2⟩ := hcap (by omega)
      (repeat' (first | exact trivial | exact fun _ => rfl | exact rfl | refine And.intro ?_ ?_))
      all_goals first | (first | omega | exact u0 (by omega) | exact u1 (by omega) | exact u1 ⟨by omega, by omega⟩ | exact un (by omega) | exact fun hh => hh | exact fun hh => absurd hh (by decide) | exact fun hh => congrArg not hh | exact fun hh => Bool.noConfusion (show true = false from hh) | exact fun hh => Bool.noConfusion (show false = true from hh)) | skip
      · intro hx
        have hy0 : 0 < y.n := by
          have hx2 : decide ((y.n : Int) > 0) = true := hx
          have := of_decide_eq_true hx2
          omega
        have hrm := hrem hy0
        have hr8 := hy (0 + ((((k + 1 : Nat) : Int)).tmod (y.n : Nat)).toNat) (by omega)
        (repeat' (first | exact trivial | exact fun _ => rfl | exact rfl | refine And.intro ?_ ?_))
        all_goals first | (first | omega | exact u0 (by omega) | exact u1 (by omega) | exact u1 ⟨by omega, by omega⟩ | exact un (by omega) | exact fun hh => hh | exact fun hh => absurd hh (by decide) | exact fun hh => congrArg not hh | exact fun hh => Bool.noConfusion (show true = false from hh) | exact fun hh => Bool.noConfusion (show false = true from hh)) | exact u0 (by omega) | decide | (show _ * 8 ≤ 140737488355328; omega) | exact (fun k hk => by have h0 : k = 0 := Nat.lt_one_iff.1 hk; subst h0; rfl) | skip
        intro c5 h51 h52
        (repeat' (first | exact trivial | exact fun _ => rfl | exact rfl | refine And.intro ?_ ?_))
        all_goals first | (first | omega | exact u0 (by omega) | exact u1 (by omega) | exact u1 ⟨by omega, by omega⟩ | exact un (by omega) | exact fun hh => hh | exact fun hh => absurd hh (by decide) | exact fun hh => congrArg not hh | exact fun hh => Bool.noConfusion (show true = false from hh) | exact fun hh => Bool.noConfusion (show false = true from hh)) | exact u0 (by omega) | skip
        refine ⟨(k + 1 + 1, c5), ⟨hlt, fun _ => ⟨h51, h52⟩⟩, by simp only; omega, ?_⟩
        refine ent_tau [0, 1, 2, 5] ⟨?_, by (repeat' (first | exact trivial | exact rfl | exact congrArg (SV.int .i64) (Int.natCast_succ _).symm | exact congrArg (SV.int .u64) (Int.natCast_succ _).symm | refine And.intro ?_ ?_)), rfl⟩
        (repeat' (first | exact trivial | exact rfl | exact fun _ _ => rfl | exact fun _ _ _ _ => rfl | exact Or.inl rfl | exact Or.inr rfl | refine And.intro ?_ ?_))
        exact app1 _ k _ (hmk hy0)
      · intro hx
        have hy0 : y.n = 0 := by
          have hx2 : decide ((y.n : Int) > 0) = false := hx
          have := of_decide_eq_false hx2
          omega
        (repeat' (first | exact trivial | exact fun _ => rfl | exact rfl | refine And.intro ?_ ?_))
        all_goals first | (first | omega | exact u0 (by omega) | exact u1 (by omega) | exact u1 ⟨by omega, by omega⟩ | exact un (by omega) | exact fun hh => hh | exact fun hh => absurd hh (by decide) | exact fun hh => congrArg not hh | exact fun hh => Bool.noConfusion (show true = false from hh) | exact fun hh => Bool.noConfusion (show false = true from hh)) | exact u0 (by omega) | decide | (show _ * 8 ≤ 140737488355328; omega) | exact (fun k hk => by have h0 : k = 0 := Nat.lt_one_iff.1 hk; subst h0; rfl) | skip
        intro c5 h51 h52
        (repeat' (first | exact trivial | exact fun _ => rfl | exact rfl | refine And.intro ?_ ?_))
        all_goals first | (first | omega | exact u0 (by omega) | exact u1 (by omega) | exact u1 ⟨by omega, by omega⟩ | exact un (by omega) | exact fun hh => hh | exact fun hh => absurd hh (by decide) | exact fun hh => congrArg not hh | exact fun hh => Bool.noConfusion (show true = false from hh) | exact fun hh => Bool.noConfusion (show false = true from hh)) | exact u0 (by omega) | skip
        refine ⟨(k + 1 + 1, c5), ⟨hlt, fun _ => ⟨h51, h52⟩⟩, by simp only; omega, ?_⟩
        refine ent_tau [0, 1, 2, 5] ⟨?_, by (repeat' (first | exact trivial | exact rfl | exact congrArg (SV.int .i64) (Int.natCast_succ _).symm | exact congrArg (SV.int .u64) (Int.natCast_succ _).symm | refine And.intro ?_ ?_)), rfl⟩
        (repeat' (first | exact trivial | exact rfl | exact fun _ _ => rfl | exact fun _ _ _ _ => rfl | exact Or.inl rfl | exact Or.inr rfl | refine And.intro ?_ ?_))
        exact app1 _ k _ ((show Int.tmod 0 7 = 0 by decide).trans (hmz hy0))
    · have h0 : h.n = k + 1 := by
        have := of_decide_eq_false hc
        omega
      obtain ⟨hc1, hc2⟩ := hcap (by omega)
      (repeat' (first | exact trivial | exact fun _ => rfl | exact rfl | refine And.intro ?_ ?_))
      refine ⟨.ret (.slice 2 1 0 (k + 1) cap), _, .inr ⟨k, cap, h0, by omega, hc2, rfl, rfl⟩, ?_⟩
      exact ent_tau [0, 1, 3] ⟨by (repeat' (first | exact trivial | exact rfl | exact fun _ _ => rfl | exact fun _ _ _ _ => rfl | exact Or.inl rfl | exact Or.inr rfl | refine And.intro ?_ ?_)), by (repeat' (first | exact trivial | exact rfl | exact congrArg (SV.int .i64) (Int.natCast_succ _).symm | exact congrArg (SV.int .u64) (Int.natCast_succ _).symm | refine And.intro ?_ ?_)), rfl⟩
end Go.Proofs.Ytgofhjihkinknaa
/-
  HorseCheck.
-/
namespace Go.Proofs.Ytgofhjihkinknaa
open Go Go.Sy Kuhn
set_option linter.unusedSimpArgs false
set_option maxRecDepth 100000
set_option maxHeartbeats 4000000
attribute [local irreducible] CallP CodeP Ent YieldP
attribute [local irreducible] HD.ch maskO

/-- Whether a move can follow another one. -/
def fv (h : HD) (i k : Nat) : Int := if h.can true i k = true then 2 else if h.can false i k = true then 1 else 0
theorem fol_in {h : HD} (hv : h.Valid) {i k : Nat} (hi : i < h.n) (hk : k < h.n) : HD.fol h (i : Nat) (k : Nat) = (fv h i k, 0) := by
  unfold HD.fol fv
  rw [if_pos hv, if_pos ⟨inB_iff.2 (by omega), inB_iff.2 (by omega)⟩]
  simp only [Int.toNat_natCast]
theorem t16i (h : HD) (hv : h.Valid) (i k : Nat) (hi : i < h.n) (hk : k < h.n) : CallP Try.prog 16 [HD.A h, .int .i64 i, .int .i64 k] (HD.H h) (Ret (.tup [.int .i64 (fv h i k), .int .i64 0]) (HD.H h)) := by
  have := t16 h i k
  rw [fol_in hv hi hk] at this
  exact this
/-- The number from which on a move can follow another one. -/
def canN (s : Bool) : Int := match s with | true => 2 | false => 1
theorem fv_lt {h : HD} (hv : h.Valid) {s : Bool} {i k : Nat} (hi : i < h.n) : fv h i k < canN s ↔ h.can s i k = false := by
  have := HD.can_sure hv hi (k := k)
  unfold fv canN
  cases s <;> cases c : h.can true i k <;> cases d : h.can false i k <;> simp_all
theorem apart_fv {h : HD} (hv : h.Valid) {s : Bool} {i k : Nat} (hi : i < h.n) (hk : k < h.n) : (fv h i k < canN s ∧ fv h k i < canN s) ↔ h.apart s i k = true := by
  rw [fv_lt hv hi, fv_lt hv hk]
  unfold HD.apart
  simp
def Hm (h : HD) (y pl : PD) : SHeap := HD.H h ++ [some (.roa 1 y.n (BDF y)), some (.cells (bc h)), some (.roa 1 pl.n (PD.F pl))]
end Go.Proofs.Ytgofhjihkinknaa
/-
  HorseCheck, and what is alike where plans are made by numbers.
-/
namespace Go.Proofs.Ytgofhjihkinknaa
open Go Go.Sy Kuhn
set_option linter.unusedSimpArgs false
set_option maxRecDepth 100000
set_option maxHeartbeats 4000000
attribute [local irreducible] CallP CodeP Ent YieldP
attribute [local irreducible] HD.ch maskO

theorem entPlan0 {n : Nat} {s : Go.Sy.St} {T T' : Tm} {H : SHeap} {D : List SV} {i sz0 m0 : Nat} {get0 : Nat → List SV} {sz : Nat} {get : Nat → List SV} (h : Ent n s ⟨T, H, D⟩) (hT : TmEq T T') (hi : H[i]? = some (some (.roa sz0 m0 get0))) : Ent n s ⟨T', H ++ [some (.roa sz 0 get)], D⟩ := entAliasR (entTmR h hT) hi
/-- The plan that is made. -/
def mkD (y : PD) (n : Nat) (b : Bool) (cap : Nat) : PD := ⟨n, mkP y, b, cap⟩
theorem pok_mk {h : HD} {y : PD} (hy : BOk y) {n : Nat} (hn : n = h.n) (b : Bool) (cap : Nat) : pok h (mkD y n b cap) = true := by
  subst hn
  unfold pok
  have e : bad (mkD y h.n b cap).p (mkD y h.n b cap).n = false := bad_iff.2 fun k _ => mkP_rng hy k
  rw [e]
  simp [mkD]
end Go.Proofs.Ytgofhjihkinknaa
/-
  Plain law: sets of moves of which no two are one horse's; how many there are.
-/
namespace Go.Proofs.Ytgofhjihkinknaa
open Go Go.Sy Kuhn
set_option linter.unusedSimpArgs false
set_option maxRecDepth 100000
set_option maxHeartbeats 4000000
attribute [local irreducible] CallP CodeP Ent YieldP
attribute [local irreducible] HD.ch maskO

theorem bit_le {S n i : Nat} (hS : S < 2 ^ n) (h : S.testBit i = true) : i < n := by
  by_cases c : i < n
  · exact c
  · rw [Nat.testBit_lt_two_pow (Nat.lt_of_lt_of_le hS (Nat.pow_le_pow_right (by omega) (by omega)))] at h
    cases h
theorem lone_all {h : HD} {s : Bool} {S : Nat} : ∀ {n : Nat}, lone h s S n = true ↔ ∀ i, i < n → S.testBit i = true → sdiff S (2 ^ i) &&& h.ch s i = 0
  | 0 => ⟨fun _ i hi => absurd hi (Nat.not_lt_zero i), fun _ => rfl⟩
  | n + 1 => by
    simp only [lone, Bool.and_eq_true, lone_all (n := n)]
    constructor
    · rintro ⟨a, b⟩ i hi hb
      rcases Nat.lt_succ_iff_lt_or_eq.1 hi with c | rfl
      · exact a i c hb
      · rw [hb] at b
        by_cases c : sdiff S (2 ^ i) &&& h.ch s i = 0
        · exact c
        · rw [decide_eq_false c] at b
          cases b
    · intro H
      refine ⟨fun i hi => H i (by omega), ?_⟩
      cases hb : S.testBit n with
      | false => rfl
      | true =>
        rw [decide_eq_true (H n (by omega) hb)]
        rfl
theorem lone_iff {h : HD} (hn : h.n ≤ 7) {s : Bool} {S : Nat} (hS : S < 2 ^ h.n) : lone h s S h.n = true ↔ h.Alone s (fun i => S.testBit i) := by
  have key : ∀ i, i < h.n → (sdiff S (2 ^ i) &&& h.ch s i = 0 ↔ ∀ k, k < h.n → S.testBit k = true → k ≠ i → h.can s i k = false) := by
    intro i hi
    constructor
    · intro e k hk hb hne
      have := congrArg (fun x => x.testBit k) e
      simp only [Nat.testBit_and, Nat.zero_testBit] at this
      rw [sdiff_bit (by omega), hb, HD.ch_bit, decide_eq_true hi, decide_eq_true hk, Nat.testBit_two_pow, decide_eq_false (by omega)] at this
      simpa using this
    · intro H
      apply Nat.eq_of_testBit_eq
      intro k
      simp only [Nat.testBit_and, Nat.zero_testBit]
      by_cases hk : k < h.n
      · rw [sdiff_bit (by omega), HD.ch_bit, decide_eq_true hi, decide_eq_true hk, Nat.testBit_two_pow]
        by_cases hne : k = i
        · rw [decide_eq_true hne.symm]
          simp
        · cases hb : S.testBit k with
          | false => simp
          | true =>
            rw [H k hk hb hne]
            simp
      · rw [HD.ch_bit, decide_eq_false hk]
        simp
  rw [lone_all]
  constructor
  · intro H i k hi hk bi bk hne
    have a := (key i hi).1 (H i hi bi) k hk bk fun c => hne c.symm
    have b := (key k hk).1 (H k hk bk) i hi bi hne
    unfold HD.apart
    rw [a, b]
    rfl
  · intro H i hi bi
    refine (key i hi).2 fun k hk bk hne => ?_
    have := H i k hi hk bi bk fun c => hne c.symm
    unfold HD.apart at this
    simp only [Bool.and_eq_true] at this
    cases c : h.can s i k
    · rfl
    · rw [c] at this
      simp at this
theorem mask_pop {B : Nat → Bool} {n : Nat} (hn : n ≤ 7) (hB : ∀ i, B i = true → i < n) : pop (maskO B n) = cnt B 7 := by
  unfold pop
  apply cnt_congr
  intro r hr
  rw [maskO_bit]
  cases b : B r with
  | false => simp
  | true => rw [decide_eq_true (hB r b)]; rfl
theorem pop_alone {h : HD} (hv : h.Valid) {s : Bool} {S : Nat} (hS : S < 2 ^ h.n) (ha : h.Alone s (fun i => S.testBit i)) : pop S ≤ h.few s := by
  obtain ⟨p, a, b⟩ := HD.need_plan hv s HD.full
  exact HD.alone_le (ok := HD.full) (fun i hi => ⟨bit_le hS hi, rfl⟩) ha b a
theorem prf_lt (h : HD) (hn : h.n ≤ 7) (s : Bool) : prfS h s < 2 ^ h.n := (prf_ok h hn s).1
theorem prf_alone (h : HD) (hn : h.n ≤ 7) (s : Bool) : h.Alone s (fun i => (prfS h s).testBit i) := (lone_iff hn (prf_lt h hn s)).1 (prf_ok h hn s).2.1
/-- Of other such sets none comes first. -/
theorem prf_best {h : HD} (hn : h.n ≤ 7) {s : Bool} {T : Nat} (hT : T < 2 ^ h.n) (ha : h.Alone s (fun i => T.testBit i)) : prfS h s = T ∨ Prior false (prfS h s) T := (prf_ok h hn s).2.2 T hT ((lone_iff hn hT).2 ha)
theorem prf_pop {h : HD} (hv : h.Valid) (s : Bool) : pop (prfS h s) = h.few s := by
  have hn := hv.2.1
  apply Nat.le_antisymm (pop_alone hv (prf_lt h hn s) (prf_alone h hn s))
  obtain ⟨B, b1, b2, b3⟩ := HD.need_alone hv s HD.full
  have hm := mask_pop hn fun i hi => (b1 i hi).1
  have := prf_best hn (s := s) (maskO_lt B h.n) (fun i k hi hk bi bk hne => b2 i k hi hk (by have bi' : (maskO B h.n).testBit i = true := bi; rw [maskO_bit] at bi'; simp at bi'; exact bi'.2) (by have bk' : (maskO B h.n).testBit k = true := bk; rw [maskO_bit] at bk'; simp at bk'; exact bk'.2) hne)
  have : pop (maskO B h.n) ≤ pop (prfS h s) := by
    rcases this with e | e
    · rw [e]
      exact Nat.le_refl _
    · unfold Prior at e
      simp only at e
      omega
  unfold HD.few
  omega
end Go.Proofs.Ytgofhjihkinknaa
/-
  Contracts: right, Used, Size.
-/
namespace Go.Proofs.Ytgofhjihkinknaa
open Go Go.Sy Kuhn
set_option linter.unusedSimpArgs false
set_option maxRecDepth 100000
set_option maxHeartbeats 4000000
attribute [local irreducible] CallP CodeP Ent YieldP
attribute [local irreducible] HD.ch maskO

/-- What Check tells is there. -/
theorem chk_spec {h : HD} (hv : h.Valid) {s : Bool} {pl : PD} (hpl : pok h pl = true) : Chk h s pl (HD.chk h s pl) := by
  have hex : ∃ r, Chk h s pl r := by
    by_cases H : ∃ m : Nat, m / 8 < m % 8 ∧ m % 8 < h.n ∧ twoBad h s pl (m / 8) (m % 8)
    · have hn := hv.2.1
      obtain ⟨m, ⟨m1, m2, m3⟩, hmin⟩ : ∃ m, (m / 8 < m % 8 ∧ m % 8 < h.n ∧ twoBad h s pl (m / 8) (m % 8)) ∧ ∀ m', m' < m → ¬ (m' / 8 < m' % 8 ∧ m' % 8 < h.n ∧ twoBad h s pl (m' / 8) (m' % 8)) := by
        obtain ⟨m, hm⟩ := H
        induction m using Nat.strongRecOn with
        | _ m ih =>
          by_cases c : ∃ m', m' < m ∧ (m' / 8 < m' % 8 ∧ m' % 8 < h.n ∧ twoBad h s pl (m' / 8) (m' % 8))
          · obtain ⟨m', a, b⟩ := c
            exact ih m' a b
          · exact ⟨m, hm, fun m' a b => c ⟨m', a, b⟩⟩
      refine ⟨_, .inr (.inr ⟨hv, hpl, .inl ⟨m / 8, m % 8, ⟨m1, m2, m3⟩, fun i k h1 h2 h3 => ?_, rfl⟩⟩)⟩
      have e1 : (i * 8 + k) / 8 = i := by omega
      have e2 : (i * 8 + k) % 8 = k := by omega
      by_cases c : i * 8 + k < m
      · exact absurd ⟨by rw [e1, e2]; exact h1, by rw [e2]; exact h2, by rw [e1, e2]; exact h3⟩ (hmin _ c)
      · omega
    · have hn := hv.2.1
      refine ⟨_, .inr (.inr ⟨hv, hpl, .inr ⟨fun i k h1 h2 h3 => H ⟨i * 8 + k, ?_⟩, rfl⟩⟩)⟩
      have e1 : (i * 8 + k) / 8 = i := by omega
      have e2 : (i * 8 + k) % 8 = k := by omega
      rw [e1, e2]
      exact ⟨h1, h2, h3⟩
  unfold HD.chk
  rw [dif_pos hex]
  exact hex.choose_spec
/-- Is a plan right? -/
noncomputable def rightB (h : HD) (s : Bool) (pl : PD) : Bool := decide ((HD.chk h s pl).2.2 = 4)
theorem rightB_iff {h : HD} (hv : h.Valid) {s : Bool} {pl : PD} (hpl : pok h pl = true) : rightB h s pl = true ↔ h.Right s HD.full pl.p := by
  unfold rightB
  rw [decide_eq_true_eq]
  rcases chk_spec hv (s := s) hpl with ⟨a, _⟩ | ⟨_, a, _⟩ | ⟨_, _, c⟩
  · exact absurd hv a
  · rw [hpl] at a
    cases a
  · rcases c with ⟨i, k, ⟨h1, h2, h3, h4⟩, _, e⟩ | ⟨H, e⟩
    · rw [e]
      constructor
      · intro x
        simp at x
      · intro R
        have := R i k (by omega) h2 rfl rfl (by omega) h3
        rw [h4] at this
        cases this
    · rw [e]
      refine ⟨fun _ i k hi hk _ _ hne e2 => ?_, fun _ => rfl⟩
      cases ha : h.apart s i k with
      | false => rfl
      | true =>
        rcases Nat.lt_or_gt_of_ne hne with c | c
        · exact absurd ⟨e2, ha⟩ (H i k c hk)
        · exact absurd ⟨e2.symm, by rw [HD.apart_comm]; exact ha⟩ (H k i c hi)
theorem t40 (h : HD) (pl : PD) (hn : pl.n ≤ 1000000) (s : Bool) : CallP Try.prog 40 [HD.A h, .osl pl.b 1 1 pl.n pl.cap, .bool s] (HD.H h ++ [some (.roa 1 pl.n (PD.F pl))]) (Ret (.bool (rightB h s pl)) (HD.H h ++ [some (.roa 1 pl.n (PD.F pl))])) := by
  have c18 := t18 h pl hn s
  refine callR (E := E) E_ok Try.func40 rfl ?_
  (repeat' (first | exact trivial | exact fun _ => rfl | exact rfl | refine And.intro ?_ ?_))
  refine c18.use [0, 1] ?_ (by (repeat' (first | exact trivial | exact rfl | exact fun _ _ => rfl | exact fun _ _ _ _ => rfl | exact Or.inl rfl | exact Or.inr rfl | refine And.intro ?_ ?_))) rfl
  (repeat' (first | exact trivial | exact fun _ => rfl | exact rfl | refine And.intro ?_ ?_))
  all_goals first | exact True.intro | omega | exact u1 (lt64 (by omega)) | exact u0 (lt64 (by omega)) | (show under _ _; simp [under, gB, wB]; done) | (show under _ _; simp [under, gB, wB]; omega) | skip
  exact ent_tau [0, 1] ⟨by (repeat' (first | exact trivial | exact rfl | exact fun _ _ => rfl | exact fun _ _ _ _ => rfl | exact Or.inl rfl | exact Or.inr rfl | refine And.intro ?_ ?_)), by (repeat' (first | exact trivial | exact rfl | exact congrArg (SV.int .i64) (Int.natCast_succ _).symm | exact congrArg (SV.int .u64) (Int.natCast_succ _).symm | refine And.intro ?_ ?_)), rfl⟩
theorem pop_half : ∀ S : Fin 128, pop S = S.val % 2 + pop (S.val / 2) := by decide +kernel
theorem pop_step {m : Nat} (h : m < 128) : pop m = m % 2 + pop (m / 2) := pop_half ⟨m, h⟩
theorem pop_zero : pop 0 = 0 := by decide +kernel
theorem pop_le7 (S : Nat) : pop S ≤ 7 := cnt_bnd _ 7
theorem t42 (S : Nat) (hS : S < 128) : CallP Try.prog 42 [.int .i64 S] [] (Ret (.int .i64 (pop S : Nat)) []) := by
  refine callR (E := E) E_ok Try.func42 rfl ?_
  (repeat' (first | exact trivial | exact fun _ => rfl | exact rfl | refine And.intro ?_ ?_))
  refine loopP E_ok [] (fun g : Nat × Nat => [(0, .int .i64 g.1), (3, .int .i64 g.2)]) (fun _ H => H) (fun g => g.1 < 128 ∧ g.2 + pop g.1 = pop S) (fun g => g.1) (S, 0) ⟨hS, Nat.zero_add _⟩ ?_ ?_
  · exact ent_tau [] ⟨by (repeat' (first | exact trivial | exact rfl | exact fun _ _ => rfl | exact fun _ _ _ _ => rfl | exact Or.inl rfl | exact Or.inr rfl | refine And.intro ?_ ?_)), by (repeat' (first | exact trivial | exact rfl | exact congrArg (SV.int .i64) (Int.natCast_succ _).symm | exact congrArg (SV.int .u64) (Int.natCast_succ _).symm | refine And.intro ?_ ?_)), rfl⟩
  rintro ⟨m, j⟩ ⟨hm, hj⟩
  simp only at hm hj
  have hp := pop_step hm
  have h7 := pop_le7 S
  refine And.intro ?_ (And.intro (fun hc => ?_) (fun hc => ?_))
  · (repeat' (first | exact trivial | exact fun _ => rfl | exact rfl | refine And.intro ?_ ?_))
  · have hm0 : 0 < m := by
      have := of_decide_eq_true hc
      omega
    have e1 : ((m : Nat) : Int).tmod 2 = ((m % 2 : Nat) : Int) := by
      rw [Int.tmod_eq_emod_of_nonneg (by omega)]
      rfl
    have e2 : ((m : Nat) : Int).tdiv 2 = ((m / 2 : Nat) : Int) := by
      rw [Int.tdiv_eq_ediv_of_nonneg (by omega)]
      rfl
    (repeat' (first | exact trivial | exact fun _ => rfl | exact rfl | refine And.intro ?_ ?_))
    all_goals first | (first | omega | exact u0 (by omega) | exact u1 (by omega) | exact u1 ⟨by omega, by omega⟩ | exact un (by omega) | exact fun hh => hh | exact fun hh => absurd hh (by decide) | exact fun hh => congrArg not hh | exact fun hh => Bool.noConfusion (show true = false from hh) | exact fun hh => Bool.noConfusion (show false = true from hh)) | (rw [e1]; omega) | (rw [e2]; omega) | skip
    refine ⟨(m / 2, j + m % 2), ⟨by simp only; omega, by simp only; omega⟩, by simp only; omega, ?_⟩
    refine ent_tau [] ⟨by (repeat' (first | exact trivial | exact rfl | exact fun _ _ => rfl | exact fun _ _ _ _ => rfl | exact Or.inl rfl | exact Or.inr rfl | refine And.intro ?_ ?_)), ?_, rfl⟩
    (repeat' (first | exact trivial | exact rfl | exact congrArg (SV.int .i64) e2 | exact congrArg (SV.int .i64) (by rw [e1]; exact (Int.natCast_add _ _).symm) | refine And.intro ?_ ?_))
  · have e : m = 0 := by
      have := of_decide_eq_false hc
      omega
    subst e
    have e2 : j = pop S := by rw [← hj, pop_zero]; rfl
    (repeat' (first | exact trivial | exact fun _ => rfl | exact rfl | refine And.intro ?_ ?_))
    refine ent_tau [] ⟨by (repeat' (first | exact trivial | exact rfl | exact fun _ _ => rfl | exact fun _ _ _ _ => rfl | exact Or.inl rfl | exact Or.inr rfl | refine And.intro ?_ ?_)), ⟨rfl, ?_, trivial⟩, rfl⟩
    exact congrArg (fun z : Nat => SV.int .i64 z) e2
theorem fresh_step {p : Nat → Int} {i k : Nat} {b : Bool} (hb : b = (List.range k).all fun m => !decide (p m = p i)) : (b && !decide (p k = p i)) = (List.range (k + 1)).all fun m => !decide (p m = p i) := by
  rw [List.range_succ, List.all_append, ← hb]
  simp
theorem t41 (pl : PD) (hn : pl.n ≤ 1000000) : CallP Try.prog 41 [.osl pl.b 0 1 pl.n pl.cap] [some (.roa 1 pl.n (PD.F pl))] (Ret (.int .i64 (HD.usedF pl.p pl.n : Nat)) [some (.roa 1 pl.n (PD.F pl))]) := by
  refine callR (E := E) E_ok Try.func41 rfl ?_
  (repeat' (first | exact trivial | exact fun _ => rfl | exact rfl | refine And.intro ?_ ?_))
  refine loopP E_ok [0] (fun i : Nat => [(3, .int .i64 (HD.usedF pl.p i : Nat)), (4, .int .i64 i)]) (fun _ H => H) (fun i => i ≤ pl.n) (fun i => pl.n - i) 0 (Nat.zero_le _) ?_ ?_
  · exact ent_tau [0] ⟨by (repeat' (first | exact trivial | exact rfl | exact fun _ _ => rfl | exact fun _ _ _ _ => rfl | exact Or.inl rfl | exact Or.inr rfl | refine And.intro ?_ ?_)), by (repeat' (first | exact trivial | exact rfl | exact congrArg (SV.int .i64) (Int.natCast_succ _).symm | exact congrArg (SV.int .u64) (Int.natCast_succ _).symm | refine And.intro ?_ ?_)), rfl⟩
  rintro i hi
  have hu := HD.usedF_le pl.p i
  refine And.intro ?_ (And.intro (fun hlt => ?_) (fun hlt => ?_))
  · (repeat' (first | exact trivial | exact fun _ => rfl | exact rfl | refine And.intro ?_ ?_))
  · have hlt' : i < pl.n := by
      have := of_decide_eq_true hlt
      omega
    (repeat' (first | exact trivial | exact fun _ => rfl | exact rfl | refine And.intro ?_ ?_))
    refine loopP E_ok [0, 3, 4] (fun g : Nat × Bool => [(5, .bool g.2), (6, .int .i64 g.1)]) (fun _ H => H) (fun g => g.1 ≤ i ∧ g.2 = (List.range g.1).all fun m => !decide (pl.p m = pl.p i)) (fun g => i - g.1) (0, true) ⟨Nat.zero_le _, rfl⟩ ?_ ?_
    · exact ent_tau [0] ⟨by (repeat' (first | exact trivial | exact rfl | exact fun _ _ => rfl | exact fun _ _ _ _ => rfl | exact Or.inl rfl | exact Or.inr rfl | refine And.intro ?_ ?_)), by (repeat' (first | exact trivial | exact rfl | exact congrArg (SV.int .i64) (Int.natCast_succ _).symm | exact congrArg (SV.int .u64) (Int.natCast_succ _).symm | refine And.intro ?_ ?_)), rfl⟩
    rintro ⟨k, b⟩ ⟨hk, hb⟩
    simp only at hk hb
    refine And.intro ?_ (And.intro (fun hlk => ?_) (fun hlk => ?_))
    · (repeat' (first | exact trivial | exact fun _ => rfl | exact rfl | refine And.intro ?_ ?_))
    · have hlk' : k < i := by
        have := of_decide_eq_true hlk
        simp only at this
        omega
      have ei := z1 i
      have ek := z1 k
      have hst := fresh_step hb
      (repeat' (first | exact trivial | exact fun _ => rfl | exact rfl | refine And.intro ?_ ?_))
      refine drawP E_ok [] pl41_9 (by kernel_rfl) ?_
      (repeat' (first | exact trivial | exact fun _ => rfl | exact rfl | refine And.intro ?_ ?_))
      all_goals first | exact True.intro | omega | exact u1 (lt64 (by omega)) | exact u0 (lt64 (by omega)) | (show under _ _; simp [under, gB, wB]; done) | (show under _ _; simp [under, gB, wB]; omega) | skip
      refine ⟨(k + 1, b && !decide (pl.p k = pl.p i)), ⟨hlk', hst⟩, by simp only; omega, ?_⟩
      refine ent_tau [0] ⟨by (repeat' (first | exact trivial | exact rfl | exact fun _ _ => rfl | exact fun _ _ _ _ => rfl | exact Or.inl rfl | exact Or.inr rfl | refine And.intro ?_ ?_)), ?_, rfl⟩
      (repeat' (first | exact trivial | exact rfl | exact congrArg (SV.int .i64) (Int.natCast_succ _).symm | exact congrArg SV.bool (by rw [ei, ek]; cases b <;> rfl) | refine And.intro ?_ ?_))
    · have e : k = i := by
        have := of_decide_eq_false hlk
        simp only at this
        omega
      subst e
      have hf : HD.fresh pl.p k = b := hb.symm
      have hu2 : HD.usedF pl.p (k + 1) = HD.usedF pl.p k + match HD.fresh pl.p k with | true => 1 | false => 0 := rfl
      rw [hf] at hu2
      cases b
      all_goals (repeat' (first | exact trivial | exact fun _ => rfl | exact rfl | refine And.intro ?_ ?_))
      all_goals all_goals first | exact True.intro | omega | exact u1 (lt64 (by omega)) | exact u0 (lt64 (by omega)) | (show under _ _; simp [under, gB, wB]; done) | (show under _ _; simp [under, gB, wB]; omega) | skip
      all_goals intro hx
      all_goals first | cases hx | skip
      all_goals (repeat' (first | exact trivial | exact fun _ => rfl | exact rfl | refine And.intro ?_ ?_))
      all_goals all_goals first | exact True.intro | omega | exact u1 (lt64 (by omega)) | exact u0 (lt64 (by omega)) | (show under _ _; simp [under, gB, wB]; done) | (show under _ _; simp [under, gB, wB]; omega) | skip
      all_goals refine ⟨k + 1, hlt', by omega, ?_⟩
      all_goals refine ent_tau [0] ⟨by (repeat' (first | exact trivial | exact rfl | exact fun _ _ => rfl | exact fun _ _ _ _ => rfl | exact Or.inl rfl | exact Or.inr rfl | refine And.intro ?_ ?_)), ?_, rfl⟩
      all_goals rw [hu2]
      all_goals (repeat' (first | exact trivial | exact rfl | exact congrArg (SV.int .i64) (Int.natCast_succ _).symm | exact congrArg (SV.int .u64) (Int.natCast_succ _).symm | refine And.intro ?_ ?_))
  · have e : i = pl.n := by
      have := of_decide_eq_false hlt
      omega
    subst e
    (repeat' (first | exact trivial | exact fun _ => rfl | exact rfl | refine And.intro ?_ ?_))
    exact ent_tau [0] ⟨by (repeat' (first | exact trivial | exact rfl | exact fun _ _ => rfl | exact fun _ _ _ _ => rfl | exact Or.inl rfl | exact Or.inr rfl | refine And.intro ?_ ?_)), by (repeat' (first | exact trivial | exact rfl | exact congrArg (SV.int .i64) (Int.natCast_succ _).symm | exact congrArg (SV.int .u64) (Int.natCast_succ _).symm | refine And.intro ?_ ?_)), rfl⟩
end Go.Proofs.Ytgofhjihkinknaa
