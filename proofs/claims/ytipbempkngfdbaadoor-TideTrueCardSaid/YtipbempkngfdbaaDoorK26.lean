/-
  Parts: D9, C7, C9, F8, T30, F9, F10.
-/
import Derived.Test.YtipbempkngfdbaaDoorK25
import Derived.Test.YtipbempkngfdbaaDoorK20
import Derived.Test.YtipbempkngfdbaaDoorK24
set_option linter.unusedVariables false
/-
  The plain law of TideMore: looks that say more, and places numbered otherwise.
-/
namespace Go.Proofs.YtipbempkngfdbaaDoor
open Go Go.Sy
set_option maxRecDepth 100000
set_option maxHeartbeats 4000000

/-- What is told of the height, where there are truths. -/
structure HgtIs (t : TD) (m lo hi : Int) : Prop where
  v : t.height m = ⟨(lo, hi), 0⟩
  bnd : ∀ x ∈ t.tru, lo ≤ t.stand x.1 m ∧ t.stand x.1 m ≤ hi
  lo : ∃ x ∈ t.tru, t.stand x.1 m = lo
  hi : ∃ x ∈ t.tru, t.stand x.1 m = hi
theorem tru_of_all {t : TD} (hv : t.Valid) {y : Tr} (hy : y ∈ t.all) : ∃ x ∈ t.tru, x.1 = y.h := by
  obtain ⟨h, h1, h2, rfl⟩ := all_mem.1 hy
  have hs := (some_iff hv).1 h2
  obtain ⟨g1, g2⟩ := sand_right hv (h := h) (f := fun p => loE (t.set h p)) fun p hp => ((set_is hv h hp).ends (hs p hp)).1
  exact ⟨(h, _), tru_mem.2 ⟨h1, g1, g2⟩, rfl⟩
theorem hgt_is {t : TD} (hv : t.Valid) (hn : t.tru ≠ []) {m : Int} (hm : t.isMin m) : ∃ lo hi, HgtIs t m lo hi := by
  have hna : t.all ≠ [] := fun h => hn ((all_nil hv).1 h)
  obtain ⟨lo, hi, hH⟩ := hull hv hna hm
  refine ⟨lo, hi, hH.v, fun x hx => ?_, ?_, ?_⟩
  · obtain ⟨h1, h2, h3⟩ := tru_mem.1 hx
    exact hH.bnd (t.tr x.1) (all_mem.2 ⟨_, h1, some_of hv h2 h3, rfl⟩)
  · obtain ⟨y, hy, e⟩ := hH.lo
    obtain ⟨x, hx, e2⟩ := tru_of_all hv hy
    exact ⟨x, hx, by rw [e2, e]⟩
  · obtain ⟨y, hy, e⟩ := hH.hi
    obtain ⟨x, hx, e2⟩ := tru_of_all hv hy
    exact ⟨x, hx, by rw [e2, e]⟩

theorem depth_nil {t : TD} (hv : t.Valid) (hn : t.tru = []) {p m : Int} (hpl : t.isPl p) (hm : t.isMin m) : t.depthT p m = ⟨(0, 0), 10⟩ := by
  unfold TD.depthT
  rw [if_neg (fun h => h hv), if_neg (fun h => h ⟨hpl, hm⟩), if_pos ((all_nil hv).2 hn)]
theorem height_nil {t : TD} (hv : t.Valid) (hn : t.tru = []) {m : Int} (hm : t.isMin m) : t.height m = ⟨(0, 0), 10⟩ := by
  unfold TD.height
  rw [if_neg (fun h => h hv), if_neg (fun h => h hm), if_pos ((all_nil hv).2 hn)]

/-! ### Looks that say more -/
/-- The same marks and sand, and looks that say at least as much. -/
structure Tight (t q : TD) : Prop where
  hts : q.hts = t.hts
  sds : q.sds = t.sds
  nS : q.nS = t.nS
  stand : ∀ h m, q.stand h m = t.stand h m
  isMin : ∀ m, q.isMin m ↔ t.isMin m
  right : ∀ h s, q.right h s = true → t.right h s = true
theorem Tight.sub {t q : TD} (T : Tight t q) : ∀ x ∈ q.tru, x ∈ t.tru := fun x hx => by
  obtain ⟨h1, h2, h3⟩ := tru_mem.1 hx
  exact tru_mem.2 ⟨T.hts ▸ h1, T.sds ▸ h2, T.right _ _ h3⟩
theorem Tight.len {t q : TD} (T : Tight t q) : q.tru.length ≤ t.tru.length := by
  have : q.tru = t.tru.filter fun x => q.right x.1 x.2 := by
    have e : q.tru = t.hts.flatMap fun h => (t.sds.filter (q.right h)).map fun s => (h, s) := by rw [TD.tru, T.hts, T.sds]
    rw [e, TD.tru, List.filter_flatMap]
    congr 1
    funext h
    rw [List.filter_map, List.filter_filter]
    congr 1
    refine List.filter_congr fun s _ => ?_
    rw [Bool.eq_iff_iff, Bool.and_eq_true]
    exact ⟨fun a => ⟨a, T.right _ _ a⟩, fun a => a.1⟩
  rw [this]
  exact List.length_filter_le _ _
/-- What TideMore asks of a tide that says more: depth and height of it, and how many truths are left. -/
structure More (t q : TD) (p : Nat) (m : Int) : Prop where
  same : (q.depthT p m).e = (q.height m).e
  code : (q.depthT p m).e = 0 ∨ (q.depthT p m).e = 10
  count : q.countT.e = 0 ∧ q.countT.v ≤ t.countT.v
  told : (q.depthT p m).e = 0 → (t.depthT p m).e = 0 ∧ (t.height m).e = 0 ∧ (t.depthT p m).v.1 ≤ (q.depthT p m).v.1 ∧ (q.depthT p m).v.2 ≤ (t.depthT p m).v.2 ∧ (t.height m).v.1 ≤ (q.height m).v.1 ∧ (q.height m).v.2 ≤ (t.height m).v.2
theorem more {t q : TD} (hv : t.Valid) (hq : q.Valid) (T : Tight t q) {p : Nat} (hp : p < t.nS) {m : Int} (hm : t.isMin m) : More t q p m := by
  have hmq := (T.isMin m).2 hm
  have hpq : p < q.nS := by rw [T.nS]; exact hp
  have hplq : q.isPl (p : Int) := ⟨by omega, by omega⟩
  have hc := count_tru hv
  have hcq := count_tru hq
  have hl := T.len
  by_cases hn : q.tru = []
  · have hna := (all_nil hq).2 hn
    have e1 : q.depthT p m = ⟨(0, 0), 10⟩ := by
      unfold TD.depthT
      rw [if_neg (fun h => h hq), if_neg (fun h => h ⟨hplq, hmq⟩), if_pos hna]
    have e2 : q.height m = ⟨(0, 0), 10⟩ := by
      unfold TD.height
      rw [if_neg (fun h => h hq), if_neg (fun h => h hmq), if_pos hna]
    refine ⟨by rw [e1, e2], .inr (by rw [e1]), ⟨by rw [hcq], by rw [hcq, hc]; show (q.tru.length : Int) ≤ t.tru.length; omega⟩, fun h => ?_⟩
    rw [e1] at h
    cases h
  · obtain ⟨a, b, hD⟩ := dep_is hq hn hpq hmq
    obtain ⟨c, d, hH⟩ := hgt_is hq hn hmq
    obtain ⟨x0, hx0⟩ := List.exists_mem_of_ne_nil _ hn
    have hnt : t.tru ≠ [] := List.ne_nil_of_mem (T.sub x0 hx0)
    obtain ⟨a', b', hD'⟩ := dep_is hv hnt hp hm
    obtain ⟨c', d', hH'⟩ := hgt_is hv hnt hm
    have ed : ∀ x, q.dep m p x = t.dep m p x := fun x => by rw [TD.dep, TD.dep, T.stand]
    refine ⟨by rw [hD.v, hH.v], .inl (by rw [hD.v]), ⟨by rw [hcq], by rw [hcq, hc]; show (q.tru.length : Int) ≤ t.tru.length; omega⟩, fun _ => ?_⟩
    rw [hD.v, hH.v, hD'.v, hH'.v]
    refine ⟨rfl, rfl, ?_, ?_, ?_, ?_⟩
    · obtain ⟨x, hx, e⟩ := hD.lo
      have := (hD'.bnd x (T.sub x hx)).1
      rw [ed] at e
      show a' ≤ a
      omega
    · obtain ⟨x, hx, e⟩ := hD.hi
      have := (hD'.bnd x (T.sub x hx)).2
      rw [ed] at e
      show b ≤ b'
      omega
    · obtain ⟨x, hx, e⟩ := hH.lo
      have := (hH'.bnd x (T.sub x hx)).1
      rw [T.stand] at e
      show c' ≤ c
      omega
    · obtain ⟨x, hx, e⟩ := hH.hi
      have := (hH'.bnd x (T.sub x hx)).2
      rw [T.stand] at e
      show d ≤ d'
      omega
theorem plus_tight (t : TD) (a m lo hi : Int) (cap : Nat) : Tight t (t.plus a m lo hi cap) := by
  refine ⟨rfl, rfl, rfl, fun _ _ => rfl, fun _ => Iff.rfl, fun h s hr => ?_⟩
  have hr' := allB_iff.1 hr
  refine allB_iff.2 fun i hi' => ?_
  have := hr' i (by show i < t.nL + 1; omega)
  simp only [TD.fit, TD.plus, if_neg (show ¬ i = t.nL by omega)] at this
  exact this
/-- A tide one look of which says more. -/
def TD.narrow (t : TD) (j : Nat) (b : Bool) (c : Nat) : TD :=
  { t with llo := fun i => if i = j then (if t.llo j + 1 < t.lhi j then t.llo j + 1 else t.lhi j) else t.llo i, bL := b, cL := c }
theorem narrow_tight {t : TD} (hv : t.Valid) (j : Nat) (hj : j < t.nL) (b : Bool) (c : Nat) : Tight t (t.narrow j b c) := by
  refine ⟨rfl, rfl, rfl, fun _ _ => rfl, fun _ => Iff.rfl, fun h s hr => ?_⟩
  have hr' := allB_iff.1 hr
  have hl := hv.2.2.2.2.2 j hj
  simp only [TD.lookOk] at hl
  refine allB_iff.2 fun i hi' => ?_
  have := hr' i hi'
  simp only [TD.fit, TD.narrow] at this ⊢
  rw [inB_iff] at this ⊢
  refine ⟨?_, this.2⟩
  have h1 := this.1
  split at h1
  · rename_i e
    subst e
    refine Int.le_trans ?_ h1
    split <;> omega
  · exact h1
/-- The same looks in a row of their own. -/
def TD.again (t : TD) (b : Bool) (c : Nat) : TD := { t with bL := b, cL := c }
theorem again_tight (t : TD) (b : Bool) (c : Nat) : Tight t (t.again b c) := ⟨rfl, rfl, rfl, fun _ _ => rfl, fun _ => Iff.rfl, fun _ _ h => h⟩
theorem again_valid {t : TD} (hv : t.Valid) (b : Bool) (c : Nat) : (t.again b c).Valid := hv

/-! ### Places numbered otherwise -/
def TD.rev (t : TD) (bS : Bool) (cS : Nat) (bL : Bool) (cL : Nat) : TD :=
  { t with slo := fun p => t.slo (t.nS - 1 - p), shi := fun p => t.shi (t.nS - 1 - p), lp := fun i => t.nS - 1 - t.lp (t.nL - 1 - i), lm := fun i => t.lm (t.nL - 1 - i), llo := fun i => t.llo (t.nL - 1 - i), lhi := fun i => t.lhi (t.nL - 1 - i), bS := bS, cS := cS, bL := bL, cL := cL }
def revS (n : Nat) (s : Nat → Int) (p : Nat) : Int := if p < n then s (n - 1 - p) else 0
section
variable {t : TD} {bS : Bool} {cS : Nat} {bL : Bool} {cL : Nat}
theorem rev_valid (hv : t.Valid) : (t.rev bS cS bL cL).Valid := by
  obtain ⟨h1, h2, h3, h4, h5, h6⟩ := hv
  refine ⟨h1, h2, h3, h4, fun i hi => ?_, fun i hi => ?_⟩
  · have hi' : i < t.nS := hi
    exact h5 (t.nS - 1 - i) (by omega)
  · have hi' : i < t.nL := hi
    have := h6 (t.nL - 1 - i) (by omega)
    simp only [TD.lookOk] at this
    simp only [TD.lookOk, TD.rev]
    exact ⟨⟨by omega, by omega⟩, this.2⟩
theorem rev_sds {s : Nat → Int} : s ∈ (t.rev bS cS bL cL).sds ↔ (∀ i, i < t.nS → t.slo (t.nS - 1 - i) ≤ s i ∧ s i ≤ t.shi (t.nS - 1 - i)) ∧ ∀ i, t.nS ≤ i → s i = 0 := sds_mem
theorem revS_in {s : Nat → Int} : s ∈ (t.rev bS cS bL cL).sds → revS t.nS s ∈ t.sds := fun h => by
  obtain ⟨a, b⟩ := rev_sds.1 h
  refine sds_mem.2 ⟨fun i hi => ?_, fun i hi => ?_⟩
  · have := a (t.nS - 1 - i) (by omega)
    rw [show t.nS - 1 - (t.nS - 1 - i) = i by omega] at this
    rw [revS, if_pos hi]
    exact this
  · rw [revS, if_neg (by omega)]
theorem revS_out {s : Nat → Int} (h : s ∈ t.sds) : revS t.nS s ∈ (t.rev bS cS bL cL).sds := by
  obtain ⟨a, b⟩ := sds_mem.1 h
  refine rev_sds.2 ⟨fun i hi => ?_, fun i hi => ?_⟩
  · rw [revS, if_pos hi]
    exact a _ (by omega)
  · rw [revS, if_neg (by omega)]
theorem revS_revS {n : Nat} {s : Nat → Int} (h : ∀ i, n ≤ i → s i = 0) : revS n (revS n s) = s := by
  funext p
  unfold revS
  by_cases hp : p < n
  · rw [if_pos hp, if_pos (by omega), show n - 1 - (n - 1 - p) = p by omega]
  · rw [if_neg hp, h p (by omega)]
theorem rev_right (hv : t.Valid) {h s : Nat → Int} : (t.rev bS cS bL cL).right h s = true ↔ t.right h (revS t.nS s) = true := by
  rw [TD.right, TD.right, allB_iff, allB_iff]
  have key : ∀ i, i < t.nL → (t.rev bS cS bL cL).fit h i (s ((t.rev bS cS bL cL).lp i).toNat) = t.fit h (t.nL - 1 - i) (revS t.nS s (t.lp (t.nL - 1 - i)).toNat) := fun i hi => by
    have hl := hv.2.2.2.2.2 (t.nL - 1 - i) (by omega)
    simp only [TD.lookOk] at hl
    have e : ((t.rev bS cS bL cL).lp i).toNat = t.nS - 1 - (t.lp (t.nL - 1 - i)).toNat := by
      show (t.nS - 1 - t.lp (t.nL - 1 - i)).toNat = _
      omega
    rw [e, revS, if_pos (show (t.lp (t.nL - 1 - i)).toNat < t.nS by omega)]
    rfl
  constructor
  · intro a i hi
    have := a (t.nL - 1 - i) (by show t.nL - 1 - i < t.nL; omega)
    rw [key _ (by omega), show t.nL - 1 - (t.nL - 1 - i) = i by omega] at this
    exact this
  · intro a i hi
    have hi' : i < t.nL := hi
    rw [key i hi']
    exact a _ (by omega)
theorem rev_mem (hv : t.Valid) {x : (Nat → Int) × (Nat → Int)} (hx : x ∈ (t.rev bS cS bL cL).tru) : (x.1, revS t.nS x.2) ∈ t.tru := by
  obtain ⟨h1, h2, h3⟩ := tru_mem.1 hx
  exact tru_mem.2 ⟨h1, revS_in h2, (rev_right hv).1 h3⟩
theorem rev_back (hv : t.Valid) {x : (Nat → Int) × (Nat → Int)} (hx : x ∈ t.tru) : (x.1, revS t.nS x.2) ∈ (t.rev bS cS bL cL).tru := by
  obtain ⟨h1, h2, h3⟩ := tru_mem.1 hx
  refine tru_mem.2 ⟨h1, revS_out h2, (rev_right hv).2 ?_⟩
  show t.right x.1 (revS t.nS (revS t.nS x.2)) = true
  rw [revS_revS (sds_mem.1 h2).2]
  exact h3
end
open Classical in
theorem nodup_le {α : Type} : ∀ {l l' : List α}, l.Nodup → (∀ x ∈ l, x ∈ l') → l.length ≤ l'.length
  | [], _, _, _ => Nat.zero_le _
  | x :: l, l', h, hs => by
    rw [List.nodup_cons] at h
    have hx := hs x List.mem_cons_self
    have := nodup_le (l' := l'.erase x) h.2 fun y hy => (List.mem_erase_of_ne (fun e => h.1 (by rw [← e]; exact hy))).2 (hs y (List.mem_cons_of_mem _ hy))
    rw [List.length_erase_of_mem hx] at this
    have : 0 < l'.length := List.length_pos_iff.2 (List.ne_nil_of_mem hx)
    rw [List.length_cons]
    omega
theorem nodup_map {α β : Type} {f : α → β} : ∀ {l : List α}, l.Nodup → (∀ a ∈ l, ∀ b ∈ l, f a = f b → a = b) → (l.map f).Nodup
  | [], _, _ => List.nodup_nil
  | x :: l, h, hi => by
    rw [List.nodup_cons] at h
    rw [List.map_cons, List.nodup_cons]
    refine ⟨fun hm => ?_, nodup_map h.2 fun a ha b hb e => hi a (List.mem_cons_of_mem _ ha) b (List.mem_cons_of_mem _ hb) e⟩
    obtain ⟨y, hy, e⟩ := List.mem_map.1 hm
    have := hi x List.mem_cons_self y (List.mem_cons_of_mem _ hy) e.symm
    subst this
    exact h.1 hy
theorem tru_nodup (t : TD) : t.tru.Nodup := by
  have : ∀ L : List (Nat → Int), L.Nodup → (L.flatMap fun h => (t.sds.filter (t.right h)).map fun s => (h, s)).Nodup := by
    intro L
    induction L with
    | nil => intro _; exact List.nodup_nil
    | cons h L ih =>
      intro hL
      rw [List.nodup_cons] at hL
      rw [List.flatMap_cons, List.nodup_append]
      refine ⟨?_, ih hL.2, fun a ha b hb e => ?_⟩
      · have hs : (t.sds.filter (t.right h)).Nodup := (lsts_nodup (Nat.le_refl _)).filter _
        exact nodup_map hs fun a _ b _ e => (Prod.mk.inj e).2
      · subst e
        obtain ⟨s, _, rfl⟩ := List.mem_map.1 ha
        obtain ⟨h', hh', hm⟩ := List.mem_flatMap.1 hb
        obtain ⟨s', _, e⟩ := List.mem_map.1 hm
        cases e
        exact hL.1 hh'
  exact this _ (lsts_nodup (Nat.le_refl _))
theorem rev_len {t : TD} (hv : t.Valid) (bS : Bool) (cS : Nat) (bL : Bool) (cL : Nat) : (t.rev bS cS bL cL).tru.length = t.tru.length := by
  have inj : ∀ {u : TD}, u.nS = t.nS → (u.tru.map fun x => (x.1, revS t.nS x.2)).Nodup := fun {u} hu => by
    refine nodup_map (tru_nodup u) ?_
    intro a ha b hb e
    have h1 := (Prod.mk.inj e).1
    have h2 := congrArg (revS t.nS) (Prod.mk.inj e).2
    rw [revS_revS (fun i hi => (sds_mem.1 (tru_mem.1 ha).2.1).2 i (by omega)), revS_revS (fun i hi => (sds_mem.1 (tru_mem.1 hb).2.1).2 i (by omega))] at h2
    exact Prod.ext h1 h2
  have a := nodup_le (inj (u := t.rev bS cS bL cL) rfl) (l' := t.tru) fun x hx => by
    obtain ⟨y, hy, rfl⟩ := List.mem_map.1 hx
    exact rev_mem hv hy
  have b := nodup_le (inj (u := t) rfl) (l' := (t.rev bS cS bL cL).tru) fun x hx => by
    obtain ⟨y, hy, rfl⟩ := List.mem_map.1 hx
    exact rev_back hv hy
  rw [List.length_map] at a b
  omega
section
variable {t : TD} (bS : Bool) (cS : Nat) (bL : Bool) (cL : Nat)
theorem rev_nil (hv : t.Valid) : (t.rev bS cS bL cL).tru = [] ↔ t.tru = [] := by
  have := rev_len hv bS cS bL cL
  constructor
  · intro h
    rw [h] at this
    exact List.eq_nil_of_length_eq_zero this.symm
  · intro h
    rw [h] at this
    exact List.eq_nil_of_length_eq_zero this
theorem rev_count (hv : t.Valid) : (t.rev bS cS bL cL).countT = t.countT := by
  rw [count_tru hv, count_tru (rev_valid hv), rev_len hv]
theorem rev_dep {m : Int} {p : Nat} (hp : p < t.nS) (x : (Nat → Int) × (Nat → Int)) : (t.rev bS cS bL cL).dep m (t.nS - 1 - p) x = t.dep m p (x.1, revS t.nS x.2) := by
  show max0 (t.stand x.1 m - x.2 (t.nS - 1 - p)) = max0 (t.stand x.1 m - revS t.nS x.2 p)
  rw [revS, if_pos hp]
theorem rev_dep' {m : Int} {p : Nat} (hp : p < t.nS) (x : (Nat → Int) × (Nat → Int)) : (t.rev bS cS bL cL).dep m (t.nS - 1 - p) (x.1, revS t.nS x.2) = t.dep m p x := by
  show max0 (t.stand x.1 m - revS t.nS x.2 (t.nS - 1 - p)) = max0 (t.stand x.1 m - x.2 p)
  rw [revS, if_pos (by omega), show t.nS - 1 - (t.nS - 1 - p) = p by omega]
theorem rev_depth (hv : t.Valid) {p : Nat} (hp : p < t.nS) {m : Int} (hm : t.isMin m) : (t.rev bS cS bL cL).depthT ((t.nS - 1 - p : Nat) : Int) m = t.depthT p m := by
  have hv' : (t.rev bS cS bL cL).Valid := rev_valid hv
  have hm' : (t.rev bS cS bL cL).isMin m := hm
  have hp' : t.nS - 1 - p < (t.rev bS cS bL cL).nS := by show t.nS - 1 - p < t.nS; omega
  by_cases hn : t.tru = []
  · have hn' := (rev_nil bS cS bL cL hv).2 hn
    rw [depth_nil hv hn ⟨by omega, by omega⟩ hm, depth_nil hv' hn' ⟨by omega, by show ((t.nS - 1 - p : Nat) : Int) ≤ t.nS - 1; omega⟩ hm']
  · have hn' : (t.rev bS cS bL cL).tru ≠ [] := fun h => hn ((rev_nil bS cS bL cL hv).1 h)
    obtain ⟨a, b, hD⟩ := dep_is hv hn hp hm
    obtain ⟨a', b', hD'⟩ := dep_is hv' hn' hp' hm'
    rw [hD.v, hD'.v]
    have e1 : a' = a := by
      obtain ⟨x, hx, e⟩ := hD.lo
      obtain ⟨y, hy, e'⟩ := hD'.lo
      have h1 := (hD'.bnd _ (rev_back hv hx)).1
      have h2 := (hD.bnd _ (rev_mem hv hy)).1
      rw [rev_dep' bS cS bL cL hp] at h1
      rw [rev_dep bS cS bL cL hp] at e'
      omega
    have e2 : b' = b := by
      obtain ⟨x, hx, e⟩ := hD.hi
      obtain ⟨y, hy, e'⟩ := hD'.hi
      have h1 := (hD'.bnd _ (rev_back hv hx)).2
      have h2 := (hD.bnd _ (rev_mem hv hy)).2
      rw [rev_dep' bS cS bL cL hp] at h1
      rw [rev_dep bS cS bL cL hp] at e'
      omega
    rw [e1, e2]
theorem rev_height (hv : t.Valid) {m : Int} (hm : t.isMin m) : (t.rev bS cS bL cL).height m = t.height m := by
  have hv' : (t.rev bS cS bL cL).Valid := rev_valid hv
  have hm' : (t.rev bS cS bL cL).isMin m := hm
  by_cases hn : t.tru = []
  · rw [height_nil hv hn hm, height_nil hv' ((rev_nil bS cS bL cL hv).2 hn) hm']
  · have hn' : (t.rev bS cS bL cL).tru ≠ [] := fun h => hn ((rev_nil bS cS bL cL hv).1 h)
    obtain ⟨a, b, hD⟩ := hgt_is hv hn hm
    obtain ⟨a', b', hD'⟩ := hgt_is hv' hn' hm'
    rw [hD.v, hD'.v]
    have st : ∀ h, (t.rev bS cS bL cL).stand h m = t.stand h m := fun _ => rfl
    have e1 : a' = a := by
      obtain ⟨x, hx, e⟩ := hD.lo
      obtain ⟨y, hy, e'⟩ := hD'.lo
      have h1 := (hD'.bnd _ (rev_back hv hx)).1
      have h2 := (hD.bnd _ (rev_mem hv hy)).1
      rw [st] at h1 e'
      simp only at h1 h2
      omega
    have e2 : b' = b := by
      obtain ⟨x, hx, e⟩ := hD.hi
      obtain ⟨y, hy, e'⟩ := hD'.hi
      have h1 := (hD'.bnd _ (rev_back hv hx)).2
      have h2 := (hD.bnd _ (rev_mem hv hy)).2
      rw [st] at h1 e'
      simp only at h1 h2
      omega
    rw [e1, e2]
theorem rev_places (hv : t.Valid) {m : Int} (hm : t.isMin m) {l h : Int} (hl : 0 ≤ l ∧ l ≤ 60) (hh : 0 ≤ h ∧ h ≤ 60) :
    ∃ S P S' P' : Nat → Bool, ∃ e : Int, t.placesT m l h = ⟨(bitsF S t.nS, bitsF P t.nS), e⟩ ∧ (t.rev bS cS bL cL).placesT m l h = ⟨(bitsF S' t.nS, bitsF P' t.nS), e⟩ ∧ ∀ q, q < t.nS → S' (t.nS - 1 - q) = S q ∧ P' (t.nS - 1 - q) = P q := by
  have hv' : (t.rev bS cS bL cL).Valid := rev_valid hv
  have hm' : (t.rev bS cS bL cL).isMin m := hm
  by_cases hn : t.tru = []
  · have h1 := (all_nil hv).2 hn
    have h2 := (all_nil hv').2 ((rev_nil bS cS bL cL hv).2 hn)
    have z : ∀ n, bitsF (fun _ => false) n = 0 := fun n => by
      induction n with
      | zero => rfl
      | succ n ih => simpa [bitsF] using ih
    refine ⟨fun _ => false, fun _ => false, fun _ => false, fun _ => false, 10, ?_, ?_, fun q _ => ⟨rfl, rfl⟩⟩
    · unfold TD.placesT
      rw [if_neg (fun h => h hv), if_neg (fun h => h ⟨hm, hl, hh⟩), if_pos h1, z]
    · unfold TD.placesT
      rw [if_neg (fun h => h hv'), if_neg (fun h => h ⟨hm', hl, hh⟩), if_pos h2, z]
  · have hn' : (t.rev bS cS bL cL).tru ≠ [] := fun h => hn ((rev_nil bS cS bL cL hv).1 h)
    obtain ⟨S, P, e, hP⟩ := places_law hv hn hm hl hh
    obtain ⟨S', P', e', hP'⟩ := places_law hv' hn' hm' hl hh
    refine ⟨S, P, S', P', 0, e, e', fun q hq => ?_⟩
    obtain ⟨a, b⟩ := hP q hq
    obtain ⟨a', b'⟩ := hP' (t.nS - 1 - q) (by show t.nS - 1 - q < t.nS; omega)
    rw [num_all] at a a'
    rw [num_pos] at b b'
    constructor
    · rw [Bool.eq_iff_iff, a, a']
      constructor
      · intro g x hx
        have := g _ (rev_back hv hx)
        rwa [rev_dep' bS cS bL cL hq] at this
      · intro g x hx
        have := g _ (rev_mem hv hx)
        rwa [← rev_dep bS cS bL cL hq] at this
    · rw [Bool.eq_iff_iff, b, b']
      constructor
      · rintro ⟨x, hx, g⟩
        exact ⟨_, rev_mem hv hx, by rwa [← rev_dep bS cS bL cL hq]⟩
      · rintro ⟨x, hx, g⟩
        exact ⟨_, rev_back hv hx, by rwa [rev_dep' bS cS bL cL hq]⟩
end
end Go.Proofs.YtipbempkngfdbaaDoor
/-
  The plain law of spans of good minutes.
-/
namespace Go.Proofs.YtipbempkngfdbaaDoor
open Go Go.Sy
set_option maxRecDepth 100000

/-- Spans of the good ones of the minutes from lo on, below m: in order, no two meet, and just the good ones are in them. -/
structure Sps (good : Int → Bool) (lo m : Int) (o : List (Int × Int)) : Prop where
  wf : ∀ i, i < o.length → lo ≤ (o.getD i (0, 0)).1 ∧ (o.getD i (0, 0)).1 ≤ (o.getD i (0, 0)).2 ∧ (o.getD i (0, 0)).2 < m
  apart : ∀ i, 0 < i → i < o.length → (o.getD (i - 1) (0, 0)).2 + 1 < (o.getD i (0, 0)).1
  mem : ∀ x, lo ≤ x → x < m → (good x = true ↔ ∃ i, i < o.length ∧ (o.getD i (0, 0)).1 ≤ x ∧ x ≤ (o.getD i (0, 0)).2)
theorem getD_append (o : List (Int × Int)) (v : Int × Int) (i : Nat) : (o ++ [v]).getD i (0, 0) = if i < o.length then o.getD i (0, 0) else if i = o.length then v else (0, 0) := by
  rw [List.getD_eq_getElem?_getD, List.getD_eq_getElem?_getD]
  rcases Nat.lt_trichotomy i o.length with h | h | h
  · rw [List.getElem?_append_left h, if_pos h]
  · subst h
    simp
  · rw [List.getElem?_eq_none (by simp; omega), if_neg (by omega), if_neg (by omega)]
    rfl
theorem Sps.step {good : Int → Bool} {lo m : Int} {o : List (Int × Int)} (h : Sps good lo m o) (hm : lo ≤ m) : Sps good lo (m + 1) (stepS (good m) o m) := by
  unfold stepS
  by_cases hg : good m = false
  · rw [if_pos hg]
    refine ⟨fun i hi => by have := h.wf i hi; omega, h.apart, fun x hx hx' => ?_⟩
    rcases Int.lt_or_le x m with hlt | hge
    · exact h.mem x hx hlt
    · have : x = m := by omega
      subst this
      rw [hg]
      refine ⟨fun h => (by cases h), fun ⟨i, hi, _, h2⟩ => ?_⟩
      have := (h.wf i hi).2.2
      omega
  · rw [if_neg hg]
    have hg' : good m = true := by simpa using hg
    by_cases hc : 0 < o.length ∧ (o.getD (o.length - 1) (0, 0)).2 + 1 = m
    · rw [if_pos hc]
      obtain ⟨h0, h1⟩ := hc
      have hl := h.wf (o.length - 1) (by omega)
      have ge : ∀ i, (o.set (o.length - 1) ((o.getD (o.length - 1) (0, 0)).1, (o.getD (o.length - 1) (0, 0)).2 + 1)).getD i (0, 0) = if i = o.length - 1 then ((o.getD (o.length - 1) (0, 0)).1, (o.getD (o.length - 1) (0, 0)).2 + 1) else o.getD i (0, 0) := fun i => getD_set o _ i _ (by omega)
      refine ⟨fun i hi => ?_, fun i h2 h3 => ?_, fun x hx hx' => ?_⟩
      · rw [List.length_set] at hi
        rw [ge]
        split
        · simp only
          omega
        · have := h.wf i hi
          omega
      · rw [List.length_set] at h3
        have := h.apart i h2 h3
        rw [ge, ge, if_neg (by omega)]
        split
        · rename_i e
          subst e
          exact this
        · exact this
      · rw [List.length_set]
        rcases Int.lt_or_le x m with hlt | hge
        · rw [h.mem x hx hlt]
          refine ⟨fun ⟨i, hi, a, b⟩ => ⟨i, hi, ?_⟩, fun ⟨i, hi, a⟩ => ⟨i, hi, ?_⟩⟩
          · rw [ge]
            split
            · rename_i e
              subst e
              simp only
              omega
            · exact ⟨a, b⟩
          · rw [ge] at a
            split at a
            · rename_i e
              subst e
              simp only at a
              omega
            · exact a
        · have : x = m := by omega
          subst this
          refine ⟨fun _ => ⟨o.length - 1, by omega, ?_⟩, fun _ => hg'⟩
          rw [ge, if_pos rfl]
          simp only
          omega
    · rw [if_neg hc]
      refine ⟨fun i hi => ?_, fun i h2 h3 => ?_, fun x hx hx' => ?_⟩
      · rw [List.length_append, List.length_singleton] at hi
        rw [getD_append]
        split
        · rename_i h4
          have := h.wf i h4
          omega
        · rw [if_pos (by omega)]
          simp only
          omega
      · rw [List.length_append, List.length_singleton] at h3
        rw [getD_append, getD_append, if_pos (show i - 1 < o.length by omega)]
        split
        · rename_i h4
          exact h.apart i h2 h4
        · rw [if_pos (by omega)]
          have e : i - 1 = o.length - 1 := by omega
          rw [e]
          have := h.wf (o.length - 1) (by omega)
          have : ¬ ((o.getD (o.length - 1) (0, 0)).2 + 1 = m) := fun h5 => hc ⟨by omega, h5⟩
          simp only
          omega
      · rw [List.length_append, List.length_singleton]
        rcases Int.lt_or_le x m with hlt | hge
        · rw [h.mem x hx hlt]
          refine ⟨fun ⟨i, hi, a⟩ => ⟨i, by omega, ?_⟩, fun ⟨i, hi, a⟩ => ?_⟩
          · rw [getD_append, if_pos hi]
            exact a
          · rw [getD_append] at a
            split at a
            · rename_i h4
              exact ⟨i, h4, a⟩
            · rw [if_pos (by omega)] at a
              simp only at a
              omega
        · have : x = m := by omega
          subst this
          refine ⟨fun _ => ⟨o.length, by omega, ?_⟩, fun _ => hg'⟩
          rw [getD_append, if_neg (by omega), if_pos rfl]
          simp only
          omega
theorem servF_sps {good : Int → Bool} {lo : Int} : ∀ (c : Nat) (m : Int) (o : List (Int × Int)), lo ≤ m → Sps good lo m o → Sps good lo (m + c) (servF good c m o)
  | 0, m, o, _, h => by simpa [servF] using h
  | c + 1, m, o, hm, h => by
    have := servF_sps c (m + 1) _ (by omega) (h.step hm)
    simp only [servF]
    rwa [show m + ((c + 1 : Nat) : Int) = m + 1 + c by omega]
theorem sps_nil (good : Int → Bool) (lo : Int) : Sps good lo lo [] := ⟨fun i h => by simp at h, fun i _ h => by simp at h, fun x h1 h2 => by omega⟩
end Go.Proofs.YtipbempkngfdbaaDoor
/-
  The plain law of TideServed.
-/
namespace Go.Proofs.YtipbempkngfdbaaDoor
open Go Go.Sy
set_option maxRecDepth 100000

theorem firstF_spec {ok : Int → Bool} : ∀ (c : Nat) (m : Int), (∃ v, firstF ok c m = ⟨v, 0⟩ ∧ m ≤ v ∧ v < m + c ∧ ok v = true ∧ ∀ x, m ≤ x → x < v → ok x = false) ∨ (firstF ok c m = ⟨0, 4⟩ ∧ ∀ x, m ≤ x → x < m + c → ok x = false)
  | 0, m => .inr ⟨rfl, fun x h1 h2 => by omega⟩
  | c + 1, m => by
    simp only [firstF]
    by_cases h : ok m = true
    · rw [if_pos h]
      exact .inl ⟨m, rfl, by omega, by omega, h, fun x h1 h2 => by omega⟩
    · rw [if_neg h]
      have h' : ok m = false := by simpa using h
      rcases firstF_spec (ok := ok) c (m + 1) with ⟨v, e, h1, h2, h3, h4⟩ | ⟨e, h4⟩
      · refine .inl ⟨v, e, by omega, by omega, h3, fun x h5 h6 => ?_⟩
        rcases Int.lt_or_eq_of_le h5 with h7 | rfl
        · exact h4 x (by omega) h6
        · exact h'
      · refine .inr ⟨e, fun x h5 h6 => ?_⟩
        rcases Int.lt_or_eq_of_le h5 with h7 | rfl
        · exact h4 x (by omega) (by omega)
        · exact h'
theorem told_iff {good : Int → Bool} {lo hi m : Int} {o : List (Int × Int)} (h : Sps good lo hi o) (h1 : lo ≤ m) (h2 : m < hi) {k : Nat} (hk : k ≤ o.length) (hb : ∀ i, i < k → (o.getD i (0, 0)).2 < m) (hs : k < o.length → ¬ (o.getD k (0, 0)).2 < m) :
    (k < o.length ∧ (o.getD k (0, 0)).1 ≤ m) ↔ good m = true := by
  rw [h.mem m h1 h2]
  refine ⟨fun ⟨a, b⟩ => ⟨k, a, b, by have := hs a; omega⟩, fun ⟨i, hi, a, b⟩ => ?_⟩
  have hik : k ≤ i := by
    rcases Nat.lt_or_ge i k with h3 | h3
    · have := hb i h3
      omega
    · exact h3
  rcases Nat.eq_or_lt_of_le hik with rfl | hlt
  · exact ⟨hi, a⟩
  · exfalso
    have h4 := hs (by omega)
    have mono : ∀ j, k < j → j < o.length → (o.getD k (0, 0)).2 < (o.getD j (0, 0)).1 := by
      intro j
      induction j with
      | zero => intro h5; omega
      | succ j ih =>
        intro h5 h6
        have h7 := h.apart (j + 1) (by omega) h6
        have e : j + 1 - 1 = j := by omega
        rw [e] at h7
        rcases Nat.eq_or_lt_of_le (show k ≤ j by omega) with rfl | h8
        · omega
        · have h9 := ih h8 (by omega)
          have h10 := (h.wf j (by omega)).2.1
          omega
    have := mono i hlt hi
    omega
theorem Sps.low {good : Int → Bool} {lo m : Int} {o : List (Int × Int)} (h : Sps good lo m o) : ∀ i : Nat, i < o.length → lo + i ≤ (o.getD i (0, 0)).1
  | 0, hi => by
    have := h.wf 0 hi
    omega
  | i + 1, hi => by
    have h1 := h.low i (by omega)
    have h2 := h.wf i (by omega)
    have h3 := h.apart (i + 1) (by omega) hi
    have e : i + 1 - 1 = i := by omega
    rw [e] at h3
    omega
theorem Sps.len {good : Int → Bool} {lo m : Int} {o : List (Int × Int)} (h : Sps good lo m o) (hm : lo ≤ m) : (o.length : Int) ≤ m - lo := by
  rcases Nat.eq_zero_or_pos o.length with h0 | h0
  · omega
  · have h1 := h.low (o.length - 1) (by omega)
    have h2 := h.wf (o.length - 1) (by omega)
    omega
theorem cond1 {n k : Nat} {a m dl dh low high : Int} {g : Bool} (hT : k < n ∧ a ≤ m ↔ g = true) (hg : g = (decide (low ≤ dl) && decide (dh ≤ high)))
    (h : (!((bif decide ((k : Int) < n) then decide (a ≤ m) else false) == bif decide (dl ≥ low) then decide (dh ≤ high) else false)) = true) : False := by
  rw [Bool.not_eq_true', beq_eq_false_iff_ne] at h
  apply h
  rw [Bool.eq_iff_iff]
  rw [hg] at hT
  simp only [Bool.and_eq_true, decide_eq_true_eq] at hT
  constructor
  · intro h1
    have h2 : k < n ∧ a ≤ m := by simpa using h1
    have := hT.1 h2
    simp [this]
  · intro h1
    have h2 : low ≤ dl ∧ dh ≤ high := by simpa using h1
    have := hT.2 h2
    simp [this]
theorem cond2 {s : Bool} {m bg fv fe dl dh low last : Int} {ok : Int → Bool} (hle : dl ≤ dh) (hm : m ≤ last) (eK : ok m = if s = true then decide (low ≤ dl) else decide (low ≤ dh))
    (hF : (fe = 0 ∧ bg ≤ fv ∧ fv ≤ last ∧ ok fv = true ∧ ∀ x, bg ≤ x → x < fv → ok x = false) ∨ (fe = 4 ∧ fv = 0 ∧ ∀ x, bg ≤ x → x ≤ last → ok x = false))
    (h : (bif bif bif decide (m ≥ bg) then bif !decide (fe = 0) then true else decide (m < fv) else false then bif decide (dl ≥ low) then true else bif !s then decide (dh ≥ low) else false else false then true else
      bif bif decide (fe = 0) then decide (m = fv) else false then !bif decide (dl ≥ low) then true else bif !s then decide (dh ≥ low) else false else false) = true) : False := by
  have hE : (bif decide (dl ≥ low) then true else bif !s then decide (dh ≥ low) else false) = ok m := by
    rw [eK, Bool.eq_iff_iff]
    cases s <;> simp <;> omega
  rw [hE] at h
  rcases hF with ⟨rfl, h1, h2, h3, h4⟩ | ⟨rfl, rfl, h4⟩
  · simp at h
    rcases h with ⟨⟨a, b⟩, c⟩ | ⟨a, b⟩
    · rw [h4 m a b] at c
      cases c
    · subst a
      rw [h3] at b
      cases b
  · simp at h
    obtain ⟨a, c⟩ := h
    rw [h4 m a hm] at c
    cases c
end Go.Proofs.YtipbempkngfdbaaDoor
/-
  TideTrue, the plain law: what is told holds in each truth.
-/
namespace Go.Proofs.YtipbempkngfdbaaDoor
open Go Go.Sy
set_option maxRecDepth 100000
set_option maxHeartbeats 4000000

theorem made_tru {t : TD} {h s : Nat → Int} (M : Made t h s) : (h, s) ∈ t.tru :=
  tru_mem.2 ⟨hts_mem.2 ⟨M.hm, M.hz⟩, sds_mem.2 ⟨fun i hi => (M.ss i hi).1, M.sz⟩, by rw [TD.right, allB_iff]; exact M.fit⟩
theorem tru_nn {t : TD} {h s : Nat → Int} (M : Made t h s) : t.tru ≠ [] := fun e => by
  have := made_tru M
  rw [e] at this
  cases this
theorem sand_in {t : TD} (hv : t.Valid) {x : (Nat → Int) × (Nat → Int)} (hx : x ∈ t.tru) {p : Nat} (hp : p < t.nS) : ∃ lo hi, t.sandT p = ⟨(lo, hi), 0⟩ ∧ lo ≤ x.2 p ∧ x.2 p ≤ hi := by
  have hn : t.tru ≠ [] := fun e => by rw [e] at hx; cases hx
  have hna : t.all ≠ [] := fun h => hn ((all_nil hv).1 h)
  have hpl : t.isPl (p : Int) := ⟨by omega, by omega⟩
  refine ⟨_, _, by unfold TD.sandT; rw [if_neg (fun h => h hv), if_neg (fun h => h hpl), if_neg hna], ?_⟩
  obtain ⟨h1, h2, h3⟩ := tru_mem.1 hx
  have hs := some_of hv h2 h3
  have e : (t.tr x.1).s p = t.set x.1 p := by simp only [TD.tr, if_pos hp]
  have hy : t.tr x.1 ∈ t.all := all_mem.2 ⟨_, h1, hs, rfl⟩
  have a1 := (hul_mem (a := fun x => loE (x.s (p : Int).toNat)) hy).1
  have a2 := (hul_mem (a := fun x => hiE (x.s (p : Int).toNat)) hy).2
  have b := ((set_is hv x.1 hp).ends ((some_iff hv).1 hs p hp)).2.2 (x.2 p) ((sds_mem.1 h2).1 p hp).1 ((sds_mem.1 h2).1 p hp).2 ((right_iff hv).1 h3 p hp)
  simp only [Int.toNat_natCast, e] at a1 a2
  exact ⟨Int.le_trans a1 b.1, Int.le_trans b.2 a2⟩
/-- What the first minutes are, without and with certainty. -/
theorem first_is {t : TD} (hv : t.Valid) (hn : t.tru ≠ []) {p : Nat} (hp : p < t.nS) {l : Int} (hl : 0 ≤ l ∧ l ≤ 60) (s : Bool) :
    ∃ fv fe : Int, t.firstT p l (t.mi 0) s = ⟨fv, fe⟩ ∧ ((fe = 0 ∧ t.isMin fv ∧ okF t p l s fv = true ∧ ∀ x, t.mi 0 ≤ x → x < fv → okF t p l s x = false) ∨ (fe = 4 ∧ fv = 0 ∧ ∀ x, t.isMin x → okF t p l s x = false)) := by
  have hM := hv.1
  have hna : t.all ≠ [] := fun h => hn ((all_nil hv).1 h)
  have hpl : t.isPl (p : Int) := ⟨by omega, by omega⟩
  have mle : t.mi 0 ≤ t.mi (t.nM - 1) := mi_le hv (Nat.zero_le _) (by omega)
  have e : t.firstT p l (t.mi 0) s = firstF (okF t p l s) (t.mi (t.nM - 1) - t.mi 0 + 1).toNat (t.mi 0) := by
    unfold TD.firstT
    rw [if_neg (fun h => h hv), if_neg (fun h => h ⟨hpl, hl, ⟨Int.le_refl _, mle⟩⟩), if_neg hna, Int.toNat_natCast]
  rw [e]
  rcases firstF_spec (ok := okF t p l s) (t.mi (t.nM - 1) - t.mi 0 + 1).toNat (t.mi 0) with ⟨v, e, h1, h2, h3, h4⟩ | ⟨e, h4⟩
  · exact ⟨v, 0, e, .inl ⟨rfl, ⟨h1, by omega⟩, h3, h4⟩⟩
  · exact ⟨0, 4, e, .inr ⟨rfl, rfl, fun x h1 => h4 x h1.1 (by have := h1.2; omega)⟩⟩
theorem ok_is {t : TD} (hv : t.Valid) (hn : t.tru ≠ []) {p : Nat} (hp : p < t.nS) {m : Int} (hm : t.isMin m) {lo hi : Int} (D : DepIs t p m lo hi) (l : Int) (s : Bool) :
    okF t p l s m = if s = true then decide (l ≤ lo) else decide (l ≤ hi) := by
  have hna : t.all ≠ [] := fun h => hn ((all_nil hv).1 h)
  have hpl : t.isPl (p : Int) := ⟨by omega, by omega⟩
  have e := D.v
  simp only [TD.depthT, hv, hpl, hm, hna, not_true, if_false, and_self, Told.mk.injEq, Prod.mk.injEq, Int.toNat_natCast] at e
  unfold okF
  rw [e.1.1, e.1.2]
theorem good_is {t : TD} (hv : t.Valid) (hn : t.tru ≠ []) {p : Nat} (hp : p < t.nS) {m : Int} (hm : t.isMin m) {lo hi : Int} (D : DepIs t p m lo hi) (l h : Int) :
    goodM t p l h m = (decide (l ≤ lo) && decide (hi ≤ h)) := by
  have hna : t.all ≠ [] := fun h => hn ((all_nil hv).1 h)
  have hpl : t.isPl (p : Int) := ⟨by omega, by omega⟩
  have e := D.v
  simp only [TD.depthT, hv, hpl, hm, hna, not_true, if_false, and_self, Told.mk.injEq, Prod.mk.injEq, Int.toNat_natCast] at e
  unfold goodM
  rw [e.1.1, e.1.2]
theorem served_is {t : TD} (hv : t.Valid) (hn : t.tru ≠ []) {p : Nat} (hp : p < t.nS) {l h : Int} (hl : 0 ≤ l ∧ l ≤ 60) (hh : 0 ≤ h ∧ h ≤ 60) :
    ∃ S, t.servedT p l h = ⟨S, 0⟩ ∧ Sps (goodM t p l h) (t.mi 0) (t.mi (t.nM - 1) + 1) S := by
  have hM := hv.1
  have hna : t.all ≠ [] := fun h => hn ((all_nil hv).1 h)
  have hpl : t.isPl (p : Int) := ⟨by omega, by omega⟩
  have mle : t.mi 0 ≤ t.mi (t.nM - 1) := mi_le hv (Nat.zero_le _) (by omega)
  refine ⟨_, by unfold TD.servedT; rw [if_neg (fun h => h hv), if_neg (fun h => h ⟨hpl, hl, hh⟩), if_neg hna], ?_⟩
  have := servF_sps (t.mi (t.nM - 1) - t.mi 0 + 1).toNat (t.mi 0) [] (Int.le_refl _) (sps_nil (goodM t p l h) (t.mi 0))
  rwa [show t.mi 0 + (((t.mi (t.nM - 1) - t.mi 0 + 1).toNat : Nat) : Int) = t.mi (t.nM - 1) + 1 by omega] at this
/-- All that is told at minutes of one truth. -/
structure TrueAt (t : TD) (h s : Nat → Int) (p : Nat) (l hg fv fe sv se : Int) (S : List (Int × Int)) (m : Int) : Prop where
  hgt : ∃ lo hi, t.height m = ⟨(lo, hi), 0⟩ ∧ lo ≤ t.stand h m ∧ t.stand h m ≤ hi
  dep : ∃ lo hi, t.depthT p m = ⟨(lo, hi), 0⟩ ∧ lo ≤ t.dep m p (h, s) ∧ t.dep m p (h, s) ≤ hi
  first : l ≤ t.dep m p (h, s) → fe = 0 ∧ fv ≤ m
  sure : se = 0 → m = sv → l ≤ t.dep m p (h, s)
  serv : ∀ i, i < S.length → (S.getD i (0, 0)).1 ≤ m → m ≤ (S.getD i (0, 0)).2 → l ≤ t.dep m p (h, s) ∧ t.dep m p (h, s) ≤ hg
theorem true_at {t : TD} {h s : Nat → Int} (M : Made t h s) {p : Nat} (hp : p < t.nS) {l hg : Int} {fv fe sv se : Int}
    (F : (fe = 0 ∧ t.isMin fv ∧ okF t p l false fv = true ∧ ∀ x, t.mi 0 ≤ x → x < fv → okF t p l false x = false) ∨ (fe = 4 ∧ fv = 0 ∧ ∀ x, t.isMin x → okF t p l false x = false))
    (U : (se = 0 ∧ t.isMin sv ∧ okF t p l true sv = true ∧ ∀ x, t.mi 0 ≤ x → x < sv → okF t p l true x = false) ∨ (se = 4 ∧ sv = 0 ∧ ∀ x, t.isMin x → okF t p l true x = false))
    {S : List (Int × Int)} (hS : Sps (goodM t p l hg) (t.mi 0) (t.mi (t.nM - 1) + 1) S) {m : Int} (hm : t.isMin m) : TrueAt t h s p l hg fv fe sv se S m := by
  have hv := M.v
  have hn := tru_nn M
  have hx := made_tru M
  obtain ⟨lo, hi, D⟩ := dep_is hv hn hp hm
  obtain ⟨a, b, H⟩ := hgt_is hv hn hm
  have hd := D.bnd _ hx
  refine ⟨⟨a, b, H.v, H.bnd _ hx⟩, ⟨lo, hi, D.v, hd⟩, fun hl => ?_, fun he hmv => ?_, fun i hi1 h1 h2 => ?_⟩
  · have ok : okF t p l false m = true := by
      rw [ok_is hv hn hp hm D, if_neg (by decide)]
      exact decide_eq_true (by omega)
    rcases F with ⟨f0, f1, f2, f3⟩ | ⟨f0, f1, f2⟩
    · refine ⟨f0, Int.not_lt.1 fun h => ?_⟩
      rw [f3 m hm.1 h] at ok
      cases ok
    · rw [f2 m hm] at ok
      cases ok
  · rcases U with ⟨f0, f1, f2, f3⟩ | ⟨f0, _⟩
    · rw [← hmv, ok_is hv hn hp hm D, if_pos rfl, decide_eq_true_eq] at f2
      omega
    · omega
  · have g := (hS.mem m hm.1 (by have := hm.2; omega)).2 ⟨i, hi1, h1, h2⟩
    rw [good_is hv hn hp hm D, Bool.and_eq_true, decide_eq_true_eq, decide_eq_true_eq] at g
    omega
/-- The surely first minute is no earlier than the first one. -/
theorem sure_first {t : TD} {h s : Nat → Int} (M : Made t h s) {p : Nat} (hp : p < t.nS) {l : Int} {fv fe sv se : Int}
    (F : (fe = 0 ∧ t.isMin fv ∧ okF t p l false fv = true ∧ ∀ x, t.mi 0 ≤ x → x < fv → okF t p l false x = false) ∨ (fe = 4 ∧ fv = 0 ∧ ∀ x, t.isMin x → okF t p l false x = false))
    (U : (se = 0 ∧ t.isMin sv ∧ okF t p l true sv = true ∧ ∀ x, t.mi 0 ≤ x → x < sv → okF t p l true x = false) ∨ (se = 4 ∧ sv = 0 ∧ ∀ x, t.isMin x → okF t p l true x = false)) :
    (fe = 0 ∨ fe = 4) ∧ (se = 0 ∨ se = 4) ∧ (se = 0 → fe = 0 ∧ fv ≤ sv ∧ t.isMin sv) := by
  refine ⟨F.elim (fun h => .inl h.1) (fun h => .inr h.1), U.elim (fun h => .inl h.1) (fun h => .inr h.1), fun he => ?_⟩
  rcases U with ⟨u0, u1, u2, u3⟩ | ⟨u0, _⟩
  · have hv := M.v
    have hn := tru_nn M
    obtain ⟨lo, hi, D⟩ := dep_is hv hn hp u1
    have hd := D.bnd _ (made_tru M)
    rw [ok_is hv hn hp u1 D, if_pos rfl, decide_eq_true_eq] at u2
    have ok : okF t p l false sv = true := by
      rw [ok_is hv hn hp u1 D, if_neg (by decide)]
      exact decide_eq_true (by omega)
    rcases F with ⟨f0, f1, f2, f3⟩ | ⟨f0, f1, f2⟩
    · refine ⟨f0, Int.not_lt.1 fun h => ?_, u1⟩
      rw [f3 sv u1.1 h] at ok
      cases ok
    · rw [f2 sv u1] at ok
      cases ok
  · omega
/-- The places that are told, by bits. -/
structure PlacesAt (t : TD) (h s : Nat → Int) (m l hg a b : Int) : Prop where
  v : t.placesT m l hg = ⟨(a, b), 0⟩
  sub : bitOp .andNot .i64 a b = 0
  le : b.fdiv (2 ^ t.nS) = 0
  bits : ∀ q, q < t.nS → (inB (t.dep m q (h, s)) l hg = true → ¬ bitOp .and .i64 (b.fdiv (2 ^ q)) 1 = 0) ∧ (¬ inB (t.dep m q (h, s)) l hg = true → ¬ bitOp .and .i64 (a.fdiv (2 ^ q)) 1 = 1)
  rng : (0 ≤ a ∧ a < 16) ∧ 0 ≤ b ∧ b < 16
theorem sub_dec : ∀ n, n < 5 → ∀ a b c d a' b' c' d' : Bool, (∀ j, j < n → bs4 a b c d j = true → bs4 a' b' c' d' j = true) → bitOp .andNot .i64 (bitsF (bs4 a b c d) n) (bitsF (bs4 a' b' c' d') n) = 0 := by decide +kernel
theorem le_dec : ∀ n, n < 5 → ∀ a b c d : Bool, (bitsF (bs4 a b c d) n).fdiv (2 ^ n) = 0 := by decide +kernel
theorem places_at {t : TD} {h s : Nat → Int} (M : Made t h s) {m : Int} (hm : t.isMin m) {l hg : Int} (hl : 0 ≤ l ∧ l ≤ 60) (hh : 0 ≤ hg ∧ hg ≤ 60) : ∃ a b, PlacesAt t h s m l hg a b := by
  have hv := M.v
  have hn := tru_nn M
  have hx := made_tru M
  have hS4 : t.nS ≤ 4 := hv.2.1.2
  obtain ⟨S, P, e, hSP⟩ := places_law hv hn hm hl hh
  have c1 : bitsF S t.nS = bitsF (bs4 (S 0) (S 1) (S 2) (S 3)) t.nS := bitsF_congr fun j hj => bs4_eq S j (by omega)
  have c2 : bitsF P t.nS = bitsF (bs4 (P 0) (P 1) (P 2) (P 3)) t.nS := bitsF_congr fun j hj => bs4_eq P j (by omega)
  have pos : 0 < t.tru.length := List.length_pos_iff.2 hn
  have r1 := bitsF_range S hS4
  have r2 := bitsF_range P hS4
  have p4 : (2 : Int) ^ t.nS ≤ 16 := by
    have : t.nS = 0 ∨ t.nS = 1 ∨ t.nS = 2 ∨ t.nS = 3 ∨ t.nS = 4 := by omega
    rcases this with h | h | h | h | h <;> rw [h] <;> decide
  refine ⟨_, _, e, ?_, ?_, fun q hq => ⟨fun hi => ?_, fun hi => ?_⟩, ⟨r1.1, by omega⟩, r2.1, by omega⟩
  · rw [c1, c2]
    refine sub_dec t.nS (by omega) _ _ _ _ _ _ _ _ fun j hj hs => ?_
    rw [← bs4_eq S j (by omega)] at hs
    rw [← bs4_eq P j (by omega)]
    have := (hSP j hj).1.1 hs
    exact (hSP j hj).2.2 (by omega)
  · rw [c2]
    exact le_dec t.nS (by omega) _ _ _ _
  · rw [bitsF_bit P hS4 hq, if_pos ((hSP q hq).2.2 (num_pos.2 ⟨_, hx, hi⟩))]
    decide
  · rw [bitsF_bit S hS4 hq, if_neg (fun h => hi (num_all.1 ((hSP q hq).1.1 h) _ hx))]
    decide
end Go.Proofs.YtipbempkngfdbaaDoor
/-
  Contract: inside.
-/
namespace Go.Proofs.YtipbempkngfdbaaDoor
open Go Go.Sy
set_option linter.unusedSimpArgs false
set_option maxRecDepth 100000
set_option maxHeartbeats 4000000
attribute [local irreducible] CallP CodeP Ent YieldP
theorem t30 (n lo hi : Int) : CallP Tryd.prog 30 [.int .i64 n, .agg [.int .i64 lo, .int .i64 hi]] [] (Ret (.bool (bif decide (lo ≤ n) then decide (n ≤ hi) else false)) []) := by
  refine callR (E := E) E_ok Tryd.func30 rfl ?_
  refine And.intro ?_ ?_
  · (repeat' (first | exact True.intro | exact d1 _ | exact d1t _ | exact d2 _ | exact d3 _ _ | exact d3f _ _ | exact fun _ _ => rfl | exact fun _ => rfl | exact rfl | refine And.intro ?_ ?_))
  exact ent_tau [] ⟨by (repeat' (first | exact trivial | exact rfl | exact fun _ _ => rfl | exact Or.inl rfl | refine And.intro ?_ ?_)), by (repeat' (first | exact trivial | exact rfl | exact congrArg (SV.int .i64) (Int.natCast_succ _).symm | refine And.intro ?_ ?_)), rfl⟩
end Go.Proofs.YtipbempkngfdbaaDoor
/-
  TideTrue, its last part: places by bits.
-/
namespace Go.Proofs.YtipbempkngfdbaaDoor
open Go Go.Sy
set_option linter.unusedSimpArgs false
set_option maxRecDepth 100000
set_option maxHeartbeats 4000000
attribute [local irreducible] CallP CodeP Ent YieldP

def gDone6 : SObj := .glob 0 [.int .i64 0, .int .i64 1, .int .i64 3, .int .i64 6, .int .i64 9, .int .i64 11, .int .i64 12]
noncomputable def H60 (n : Nat) (by' : Nat → Int) : SHeap := [some (.roa 1 n fun k => [.int .u16 (by' k)]), some (.glob 0 [.int .i64 0, .int .i64 1, .int .i64 3, .int .i64 6, .int .i64 9, .int .i64 11, .int .i64 12]), some db]
noncomputable def H6t (b : Bool) (n cap : Nat) (by' : Nat → Int) (c : Int) (t : TD) (h s : Nat → Int) : SHeap := [some (.roa 1 n fun k => [.int .u16 (by' k)]), some (.glob 0 [.int .i64 0, .int .i64 1, .int .i64 3, .int .i64 6, .int .i64 9, .int .i64 11, .int .i64 12]), some db, some (.cells [.int .i64 c]), some (.cells [.osl b 0 1 n cap]), some (.roa 3 t.nM (row3 t.mi t.mlo t.mhi)), some (.roa 2 t.nS (row2 t.slo t.shi)), some (.roa 4 t.nL (row4 t.lp t.lm t.llo t.lhi)), some (.roa 1 t.nM (rowI h)), some (.roa 1 t.nS (rowI s)), some (.cells [.osl t.bM 5 3 t.nM t.cM, .osl t.bS 6 2 t.nS t.cS, .osl t.bL 7 4 t.nL t.cL])]
noncomputable def T6g (t : TD) (ch cs : Nat) (l hg : Int) : Tm := mkT [] [(2, .bool false), (3, .fn (.func 81) [] [.ptr 3 0, .ptr 4 0]), (4, .ptr 10 0), (5, .osl true 8 1 t.nM ch), (6, .osl true 9 1 t.nS cs), (12, .int .i64 l), (13, .int .i64 hg), (14, .int .i64 (t.mi 0)), (15, .int .i64 (t.mi (t.nM - 1)))] 0 (List.replicate 367 none)
/-- What is known in all parts. -/
structure B6 (by' : Nat → Int) (n : Nat) (t : TD) (h s : Nat → Int) (c l hg : Int) : Prop where
  M : Made t h s
  hby : ∀ k, 0 ≤ by' k ∧ by' k ≤ 65535
  hn : n ≤ 9223372036854775807
  hc : 0 ≤ c ∧ c ≤ 700000
  hl : 0 ≤ l ∧ l ≤ 60
  hh : 0 ≤ hg ∧ hg ≤ 60
theorem minutes {t : TD} (hv : t.Valid) : (0 ≤ t.mi 0 ∧ t.mi 0 ≤ 240) ∧ (0 ≤ t.mi (t.nM - 1) ∧ t.mi (t.nM - 1) ≤ 240) ∧ t.mi 0 ≤ t.mi (t.nM - 1) := by
  have hM := hv.1
  exact ⟨(hv.marks (i := 0) (by omega)).1, (hv.marks (i := t.nM - 1) (by omega)).1, mi_le hv (Nat.zero_le _) (by omega)⟩
theorem seg6g (b : Bool) (n cap : Nat) (by' : Nat → Int) (c : Int) (t : TD) (h s : Nat → Int) (ch cs : Nat) (l hg : Int) (B : B6 by' n t h s c l hg) :
    CodeP Tryd.prog none 3 (sufC Tryd.f6 18) ⟨T6g t ch cs l hg, H6t b n cap by' c t h s, []⟩ (KRet E Tryd.f6 3 (.bool true) (H60 n by')) := by
  have hv := B.M.v
  obtain ⟨mi1, mi2, mi3⟩ := minutes hv
  have hM := hv.1
  have hS := hv.2.1
  have hc := B.hc
  refine codeP_XK E_ok 50 ?_
  refine And.intro ?_ ?_
  · (repeat' (first | exact trivial | exact fun _ => rfl | exact rfl | refine And.intro ?_ ?_))
    all_goals omega
  refine CallP.frameH (t81 b n cap by' B.hby B.hn c ⟨by omega, by omega⟩ (t.mi (t.nM - 1) - t.mi 0 + 1) ⟨by omega, by omega⟩) [3, 4, 0] (by (repeat' (first | exact trivial | exact rfl | exact fun _ _ => rfl | exact Or.inl rfl | refine And.intro ?_ ?_))) rfl ?_
  rintro ce h' ⟨v, hv0, hv1, rfl, rfl⟩
  refine ⟨rfl, ?_⟩
  refine And.intro ?_ ?_
  · (repeat' (first | exact trivial | exact fun _ => rfl | exact rfl | refine And.intro ?_ ?_))
    all_goals omega
  have hm : t.isMin (t.mi 0 + v) := ⟨by omega, by omega⟩
  obtain ⟨pa, pb, A⟩ := places_at B.M hm B.hl B.hh
  have c32 := t32 t (t.mi 0 + v) l hg
  rw [A.v] at c32
  have hrng := A.rng
  refine (c32).use [5, 6, 7, 1, 2] ?_ (by (repeat' (first | exact trivial | exact rfl | exact fun _ _ => rfl | exact Or.inl rfl | refine And.intro ?_ ?_))) rfl
  refine And.intro ?_ (And.intro (fun hc1 => ?_) (fun hc1 => ?_))
  · (repeat' (first | exact True.intro | exact d1 _ | exact d1t _ | exact d2 _ | exact d3 _ _ | exact d3f _ _ | exact fun _ _ => rfl | exact fun _ => rfl | exact rfl | refine And.intro ?_ ?_))
    all_goals exact fun _ => by first | omega | (show (_ : Int) < 64; omega)
  · exfalso
    have e2 : pb.fdiv (2 ^ ((t.nS : Int)).toNat) = 0 := A.le
    have e1 : bitOp .andNot .i64 pa pb = 0 := A.sub
    simp only [e1, e2, decide_true, Bool.not_true, cond_false] at hc1
    cases hc1
  refine And.intro trivial ?_
  refine loopP E_ok [3, 4, 5, 6, 12, 13, 38, 39, 40, 328, 329] (fun k : Nat => [(330, .int .i64 k)]) (fun _ H => H) (fun k => k ≤ t.nS) (fun k => t.nS - k) 0 (Nat.zero_le _) ?_ ?_
  · exact ent_tau [0, 1, 2, 3, 4, 5, 6, 7, 8, 9, 10] ⟨by (repeat' (first | exact trivial | exact rfl | exact fun _ _ => rfl | exact Or.inl rfl | refine And.intro ?_ ?_)), by (repeat' (first | exact trivial | exact rfl | exact congrArg (SV.int .i64) (Int.natCast_succ _).symm | refine And.intro ?_ ?_)), rfl⟩
  intro k hk
  have ek : 0 + ((k : Int)).toNat = k := by omega
  have ek2 : ((k : Int)).toNat = k := by omega
  have hst := stand_range hv hm B.M.hh
  refine And.intro ?_ (And.intro (fun hcc => ?_) (fun hcc => ?_))
  · (repeat' (first | exact trivial | exact fun _ => rfl | exact rfl | refine And.intro ?_ ?_))
  · have hk' : k < t.nS := by
      have := of_decide_eq_true hcc
      omega
    have hsp := (B.M.ss k hk').2
    refine And.intro ?_ ?_
    · (repeat' (first | exact True.intro | exact d1 _ | exact d1t _ | exact d2 _ | exact d3 _ _ | exact d3f _ _ | exact fun _ _ => rfl | exact fun _ => rfl | exact rfl | refine And.intro ?_ ?_))
      all_goals exact un (by omega)
    refine (t29 t hv h B.M.hh t.nM ch (Nat.le_refl _) (by omega) (t.mi 0 + v) hm).use [5, 6, 7, 8] ?_ (by (repeat' (first | exact trivial | exact rfl | exact fun _ _ => rfl | exact Or.inl rfl | refine And.intro ?_ ?_))) rfl
    refine And.intro ?_ ?_
    · (repeat' (first | exact True.intro | exact d1 _ | exact d1t _ | exact d2 _ | exact d3 _ _ | exact d3f _ _ | exact fun _ _ => rfl | exact fun _ => rfl | exact rfl | refine And.intro ?_ ?_))
      all_goals first | (rw [ek]; omega) | exact un (by omega) | omega
    refine (t24 l hg).use [] ?_ (by (repeat' (first | exact trivial | exact rfl | exact fun _ _ => rfl | exact Or.inl rfl | refine And.intro ?_ ?_))) rfl
    refine And.intro ?_ ?_
    · (repeat' (first | exact trivial | exact fun _ => rfl | exact rfl | refine And.intro ?_ ?_))
    refine (t30 _ l hg).use [] ?_ (by (repeat' (first | exact trivial | exact rfl | exact fun _ _ => rfl | exact Or.inl rfl | refine And.intro ?_ ?_))) rfl
    have eIS : (bif decide (l ≤ (if t.stand h (t.mi 0 + v) - s (0 + ((k : Int)).toNat) > 0 then t.stand h (t.mi 0 + v) - s (0 + ((k : Int)).toNat) else 0)) then decide ((if t.stand h (t.mi 0 + v) - s (0 + ((k : Int)).toNat) > 0 then t.stand h (t.mi 0 + v) - s (0 + ((k : Int)).toNat) else 0) ≤ hg) else false) = inB (t.dep (t.mi 0 + v) k (h, s)) l hg := by
      rw [ek]
      unfold inB TD.dep max0
      simp only
      cases decide (l ≤ (if t.stand h (t.mi 0 + v) - s k > 0 then t.stand h (t.mi 0 + v) - s k else 0)) <;> rfl
    have hbits := A.bits k hk'
    refine And.intro ?_ (And.intro (fun hcd => ?_) (fun hcd => ?_))
    · (repeat' (first | exact True.intro | exact d1 _ | exact d1t _ | exact d2 _ | exact d3 _ _ | exact d3f _ _ | exact fun _ _ => rfl | exact fun _ => rfl | exact rfl | refine And.intro ?_ ?_))
      all_goals exact fun _ => by first | omega | (show ((k : Nat) : Int) < 64; omega)
    · exfalso
      rw [eIS] at hcd
      cases hI : inB (t.dep (t.mi 0 + v) k (h, s)) l hg
      · simp only [hI, ek2, cond_false, cond_true, Bool.not_false, Bool.not_true, decide_eq_true_eq] at hcd
        exact hbits.2 (by rw [hI]; decide) hcd
      · simp only [hI, ek2, cond_false, cond_true, Bool.not_false, Bool.not_true] at hcd
        exact hbits.1 hI (by simpa using hcd)
    refine And.intro ?_ ⟨k + 1, hk', by omega, ?_⟩
    · (repeat' (first | exact trivial | exact fun _ => rfl | exact rfl | refine And.intro ?_ ?_))
      all_goals omega
    · exact ent_tau [0, 1, 2, 3, 4, 5, 6, 7, 8, 9, 10] ⟨by (repeat' (first | exact trivial | exact rfl | exact fun _ _ => rfl | exact Or.inl rfl | refine And.intro ?_ ?_)), by (repeat' (first | exact trivial | exact rfl | exact congrArg (SV.int .i64) (Int.natCast_succ _).symm | refine And.intro ?_ ?_)), rfl⟩
  · refine And.intro ?_ ?_
    · (repeat' (first | exact trivial | exact fun _ => rfl | exact rfl | refine And.intro ?_ ?_))
    refine And.intro ?_ ?_
    · (repeat' (first | exact trivial | exact fun _ => rfl | exact rfl | refine And.intro ?_ ?_))
    refine (t14).use [1, 2] ?_ (by (repeat' (first | exact trivial | exact rfl | exact fun _ _ => rfl | exact Or.inl rfl | refine And.intro ?_ ?_))) rfl
    (repeat' (first | exact trivial | exact fun _ => rfl | exact rfl | refine And.intro ?_ ?_))
    exact ent_tau [0, 1, 2] ⟨by (repeat' (first | exact trivial | exact rfl | exact fun _ _ => rfl | exact Or.inl rfl | refine And.intro ?_ ?_)), by (repeat' (first | exact trivial | exact rfl | exact congrArg (SV.int .i64) (Int.natCast_succ _).symm | refine And.intro ?_ ?_)), rfl⟩
end Go.Proofs.YtipbempkngfdbaaDoor
/-
  TideTrue: the sand.
-/
namespace Go.Proofs.YtipbempkngfdbaaDoor
open Go Go.Sy
set_option linter.unusedSimpArgs false
set_option maxRecDepth 100000
set_option maxHeartbeats 4000000
attribute [local irreducible] CallP CodeP Ent YieldP

theorem seg6f (b : Bool) (n cap : Nat) (by' : Nat → Int) (c : Int) (t : TD) (h s : Nat → Int) (ch cs : Nat) (l hg : Int) (B : B6 by' n t h s c l hg) :
    CodeP Tryd.prog none 3 (sufC Tryd.f6 17) ⟨T6g t ch cs l hg, H6t b n cap by' c t h s, []⟩ (KRet E Tryd.f6 3 (.bool true) (H60 n by')) := by
  have hv := B.M.v
  have hS := hv.2.1
  have hc := B.hc
  refine codeP_XK E_ok 1 ?_
  refine And.intro ?_ ?_
  · (repeat' (first | exact trivial | exact fun _ => rfl | exact rfl | refine And.intro ?_ ?_))
  refine loopP E_ok [2, 3, 4, 5, 6, 12, 13, 14, 15, 274, 275] (fun k : Nat => [(276, .int .i64 k)]) (fun _ H => H) (fun k => k ≤ t.nS) (fun k => t.nS - k) 0 (Nat.zero_le _) ?_ ?_
  · exact ent_tau [0, 1, 2, 3, 4, 5, 6, 7, 8, 9, 10] ⟨by (repeat' (first | exact trivial | exact rfl | exact fun _ _ => rfl | exact Or.inl rfl | refine And.intro ?_ ?_)), by (repeat' (first | exact trivial | exact rfl | exact congrArg (SV.int .i64) (Int.natCast_succ _).symm | refine And.intro ?_ ?_)), rfl⟩
  intro k hk
  have ek : 0 + ((k : Int)).toNat = k := by omega
  refine And.intro ?_ (And.intro (fun hcc => ?_) (fun hcc => ?_))
  · (repeat' (first | exact trivial | exact fun _ => rfl | exact rfl | refine And.intro ?_ ?_))
  · have hk' : k < t.nS := by
      have := of_decide_eq_true hcc
      omega
    obtain ⟨lo, hi, e, h1, h2⟩ := sand_in hv (made_tru B.M) hk'
    simp only at h1 h2
    have c31 := t31 t k
    rw [e] at c31
    refine And.intro ?_ ?_
    · (repeat' (first | exact True.intro | exact d1 _ | exact d1t _ | exact d2 _ | exact d3 _ _ | exact d3f _ _ | exact fun _ _ => rfl | exact fun _ => rfl | exact rfl | refine And.intro ?_ ?_))
      all_goals exact un (by omega)
    refine (c31).use [5, 6, 7, 1, 2] ?_ (by (repeat' (first | exact trivial | exact rfl | exact fun _ _ => rfl | exact Or.inl rfl | refine And.intro ?_ ?_))) rfl
    (repeat' (first | exact trivial | exact fun _ => rfl | exact rfl | refine And.intro ?_ ?_))
    rotate_left
    · exact fun hx => absurd (show true = false from hx) (by decide)
    intro _
    refine (t30 _ lo hi).use [] ?_ (by (repeat' (first | exact trivial | exact rfl | exact fun _ _ => rfl | exact Or.inl rfl | refine And.intro ?_ ?_))) rfl
    have eIS : (bif decide (lo ≤ s (0 + ((k : Int)).toNat)) then decide (s (0 + ((k : Int)).toNat) ≤ hi) else false) = true := by
      rw [ek, decide_eq_true h1, decide_eq_true h2]
      rfl
    refine And.intro ?_ (And.intro (fun hcd => ?_) (fun hcd => ?_))
    · (repeat' (first | exact True.intro | exact d1 _ | exact d1t _ | exact d2 _ | exact d3 _ _ | exact d3f _ _ | exact fun _ _ => rfl | exact fun _ => rfl | exact rfl | refine And.intro ?_ ?_))
    · exfalso
      rw [eIS] at hcd
      exact absurd hcd (by simp)
    refine And.intro ?_ ⟨k + 1, hk', by omega, ?_⟩
    · (repeat' (first | exact trivial | exact fun _ => rfl | exact rfl | refine And.intro ?_ ?_))
      all_goals omega
    · exact ent_tau [0, 1, 2, 3, 4, 5, 6, 7, 8, 9, 10] ⟨by (repeat' (first | exact trivial | exact rfl | exact fun _ _ => rfl | exact Or.inl rfl | refine And.intro ?_ ?_)), by (repeat' (first | exact trivial | exact rfl | exact congrArg (SV.int .i64) (Int.natCast_succ _).symm | refine And.intro ?_ ?_)), rfl⟩
  · (repeat' (first | exact trivial | exact fun _ => rfl | exact rfl | refine And.intro ?_ ?_))
    refine CodeP.part (seg6g b n cap by' c t h s ch cs l hg B) ?_
    exact ent_tau [0, 1, 2, 3, 4, 5, 6, 7, 8, 9, 10] ⟨by (repeat' (first | exact trivial | exact rfl | exact fun _ _ => rfl | exact Or.inl rfl | refine And.intro ?_ ?_)), by (repeat' (first | exact trivial | exact rfl | exact congrArg (SV.int .i64) (Int.natCast_succ _).symm | refine And.intro ?_ ?_)), rfl⟩
end Go.Proofs.YtipbempkngfdbaaDoor
