/-
  Parts: D9, Sy27, D1, C3.
-/
import Derived.Test.YtipbempkngfdbaaDoorK24
import Derived.Test.YtipbempkngfdbaaDoorK11
import Derived.Test.YtipbempkngfdbaaDoorK23
/-
  The plain law of TideMore: looks that say more, and places numbered otherwise.
-/
namespace Go.Proofs.YtipbempkngfdbaaDoor
open Go Go.Sy
set_option maxRecDepth 100000
set_option maxHeartbeats 4000000

/-- What is told of the height, where there are truths. -/
structure HgtIs (t : TD) (m lo hi : Int) : Prop where
  v : t.height m = ⟨(lo, hi), 0⟩
  bnd : ∀ x ∈ t.tru, lo ≤ t.stand x.1 m ∧ t.stand x.1 m ≤ hi
  lo : ∃ x ∈ t.tru, t.stand x.1 m = lo
  hi : ∃ x ∈ t.tru, t.stand x.1 m = hi
theorem tru_of_all {t : TD} (hv : t.Valid) {y : Tr} (hy : y ∈ t.all) : ∃ x ∈ t.tru, x.1 = y.h := by
  obtain ⟨h, h1, h2, rfl⟩ := all_mem.1 hy
  have hs := (some_iff hv).1 h2
  obtain ⟨g1, g2⟩ := sand_right hv (h := h) (f := fun p => loE (t.set h p)) fun p hp => ((set_is hv h hp).ends (hs p hp)).1
  exact ⟨(h, _), tru_mem.2 ⟨h1, g1, g2⟩, rfl⟩
theorem hgt_is {t : TD} (hv : t.Valid) (hn : t.tru ≠ []) {m : Int} (hm : t.isMin m) : ∃ lo hi, HgtIs t m lo hi := by
  have hna : t.all ≠ [] := fun h => hn ((all_nil hv).1 h)
  obtain ⟨lo, hi, hH⟩ := hull hv hna hm
  refine ⟨lo, hi, hH.v, fun x hx => ?_, ?_, ?_⟩
  · obtain ⟨h1, h2, h3⟩ := tru_mem.1 hx
    exact hH.bnd (t.tr x.1) (all_mem.2 ⟨_, h1, some_of hv h2 h3, rfl⟩)
  · obtain ⟨y, hy, e⟩ := hH.lo
    obtain ⟨x, hx, e2⟩ := tru_of_all hv hy
    exact ⟨x, hx, by rw [e2, e]⟩
  · obtain ⟨y, hy, e⟩ := hH.hi
    obtain ⟨x, hx, e2⟩ := tru_of_all hv hy
    exact ⟨x, hx, by rw [e2, e]⟩

theorem depth_nil {t : TD} (hv : t.Valid) (hn : t.tru = []) {p m : Int} (hpl : t.isPl p) (hm : t.isMin m) : t.depthT p m = ⟨(0, 0), 10⟩ := by
  unfold TD.depthT
  rw [if_neg (fun h => h hv), if_neg (fun h => h ⟨hpl, hm⟩), if_pos ((all_nil hv).2 hn)]
theorem height_nil {t : TD} (hv : t.Valid) (hn : t.tru = []) {m : Int} (hm : t.isMin m) : t.height m = ⟨(0, 0), 10⟩ := by
  unfold TD.height
  rw [if_neg (fun h => h hv), if_neg (fun h => h hm), if_pos ((all_nil hv).2 hn)]

/-! ### Looks that say more -/
/-- The same marks and sand, and looks that say at least as much. -/
structure Tight (t q : TD) : Prop where
  hts : q.hts = t.hts
  sds : q.sds = t.sds
  nS : q.nS = t.nS
  stand : ∀ h m, q.stand h m = t.stand h m
  isMin : ∀ m, q.isMin m ↔ t.isMin m
  right : ∀ h s, q.right h s = true → t.right h s = true
theorem Tight.sub {t q : TD} (T : Tight t q) : ∀ x ∈ q.tru, x ∈ t.tru := fun x hx => by
  obtain ⟨h1, h2, h3⟩ := tru_mem.1 hx
  exact tru_mem.2 ⟨T.hts ▸ h1, T.sds ▸ h2, T.right _ _ h3⟩
theorem Tight.len {t q : TD} (T : Tight t q) : q.tru.length ≤ t.tru.length := by
  have : q.tru = t.tru.filter fun x => q.right x.1 x.2 := by
    have e : q.tru = t.hts.flatMap fun h => (t.sds.filter (q.right h)).map fun s => (h, s) := by rw [TD.tru, T.hts, T.sds]
    rw [e, TD.tru, List.filter_flatMap]
    congr 1
    funext h
    rw [List.filter_map, List.filter_filter]
    congr 1
    refine List.filter_congr fun s _ => ?_
    rw [Bool.eq_iff_iff, Bool.and_eq_true]
    exact ⟨fun a => ⟨a, T.right _ _ a⟩, fun a => a.1⟩
  rw [this]
  exact List.length_filter_le _ _
/-- What TideMore asks of a tide that says more: depth and height of it, and how many truths are left. -/
structure More (t q : TD) (p : Nat) (m : Int) : Prop where
  same : (q.depthT p m).e = (q.height m).e
  code : (q.depthT p m).e = 0 ∨ (q.depthT p m).e = 10
  count : q.countT.e = 0 ∧ q.countT.v ≤ t.countT.v
  told : (q.depthT p m).e = 0 → (t.depthT p m).e = 0 ∧ (t.height m).e = 0 ∧ (t.depthT p m).v.1 ≤ (q.depthT p m).v.1 ∧ (q.depthT p m).v.2 ≤ (t.depthT p m).v.2 ∧ (t.height m).v.1 ≤ (q.height m).v.1 ∧ (q.height m).v.2 ≤ (t.height m).v.2
theorem more {t q : TD} (hv : t.Valid) (hq : q.Valid) (T : Tight t q) {p : Nat} (hp : p < t.nS) {m : Int} (hm : t.isMin m) : More t q p m := by
  have hmq := (T.isMin m).2 hm
  have hpq : p < q.nS := by rw [T.nS]; exact hp
  have hplq : q.isPl (p : Int) := ⟨by omega, by omega⟩
  have hc := count_tru hv
  have hcq := count_tru hq
  have hl := T.len
  by_cases hn : q.tru = []
  · have hna := (all_nil hq).2 hn
    have e1 : q.depthT p m = ⟨(0, 0), 10⟩ := by
      unfold TD.depthT
      rw [if_neg (fun h => h hq), if_neg (fun h => h ⟨hplq, hmq⟩), if_pos hna]
    have e2 : q.height m = ⟨(0, 0), 10⟩ := by
      unfold TD.height
      rw [if_neg (fun h => h hq), if_neg (fun h => h hmq), if_pos hna]
    refine ⟨by rw [e1, e2], .inr (by rw [e1]), ⟨by rw [hcq], by rw [hcq, hc]; show (q.tru.length : Int) ≤ t.tru.length; omega⟩, fun h => ?_⟩
    rw [e1] at h
    cases h
  · obtain ⟨a, b, hD⟩ := dep_is hq hn hpq hmq
    obtain ⟨c, d, hH⟩ := hgt_is hq hn hmq
    obtain ⟨x0, hx0⟩ := List.exists_mem_of_ne_nil _ hn
    have hnt : t.tru ≠ [] := List.ne_nil_of_mem (T.sub x0 hx0)
    obtain ⟨a', b', hD'⟩ := dep_is hv hnt hp hm
    obtain ⟨c', d', hH'⟩ := hgt_is hv hnt hm
    have ed : ∀ x, q.dep m p x = t.dep m p x := fun x => by rw [TD.dep, TD.dep, T.stand]
    refine ⟨by rw [hD.v, hH.v], .inl (by rw [hD.v]), ⟨by rw [hcq], by rw [hcq, hc]; show (q.tru.length : Int) ≤ t.tru.length; omega⟩, fun _ => ?_⟩
    rw [hD.v, hH.v, hD'.v, hH'.v]
    refine ⟨rfl, rfl, ?_, ?_, ?_, ?_⟩
    · obtain ⟨x, hx, e⟩ := hD.lo
      have := (hD'.bnd x (T.sub x hx)).1
      rw [ed] at e
      show a' ≤ a
      omega
    · obtain ⟨x, hx, e⟩ := hD.hi
      have := (hD'.bnd x (T.sub x hx)).2
      rw [ed] at e
      show b ≤ b'
      omega
    · obtain ⟨x, hx, e⟩ := hH.lo
      have := (hH'.bnd x (T.sub x hx)).1
      rw [T.stand] at e
      show c' ≤ c
      omega
    · obtain ⟨x, hx, e⟩ := hH.hi
      have := (hH'.bnd x (T.sub x hx)).2
      rw [T.stand] at e
      show d ≤ d'
      omega
theorem plus_tight (t : TD) (a m lo hi : Int) (cap : Nat) : Tight t (t.plus a m lo hi cap) := by
  refine ⟨rfl, rfl, rfl, fun _ _ => rfl, fun _ => Iff.rfl, fun h s hr => ?_⟩
  have hr' := allB_iff.1 hr
  refine allB_iff.2 fun i hi' => ?_
  have := hr' i (by show i < t.nL + 1; omega)
  simp only [TD.fit, TD.plus, if_neg (show ¬ i = t.nL by omega)] at this
  exact this
/-- A tide one look of which says more. -/
def TD.narrow (t : TD) (j : Nat) (b : Bool) (c : Nat) : TD :=
  { t with llo := fun i => if i = j then (if t.llo j + 1 < t.lhi j then t.llo j + 1 else t.lhi j) else t.llo i, bL := b, cL := c }
theorem narrow_tight {t : TD} (hv : t.Valid) (j : Nat) (hj : j < t.nL) (b : Bool) (c : Nat) : Tight t (t.narrow j b c) := by
  refine ⟨rfl, rfl, rfl, fun _ _ => rfl, fun _ => Iff.rfl, fun h s hr => ?_⟩
  have hr' := allB_iff.1 hr
  have hl := hv.2.2.2.2.2 j hj
  simp only [TD.lookOk] at hl
  refine allB_iff.2 fun i hi' => ?_
  have := hr' i hi'
  simp only [TD.fit, TD.narrow] at this ⊢
  rw [inB_iff] at this ⊢
  refine ⟨?_, this.2⟩
  have h1 := this.1
  split at h1
  · rename_i e
    subst e
    refine Int.le_trans ?_ h1
    split <;> omega
  · exact h1
/-- The same looks in a row of their own. -/
def TD.again (t : TD) (b : Bool) (c : Nat) : TD := { t with bL := b, cL := c }
theorem again_tight (t : TD) (b : Bool) (c : Nat) : Tight t (t.again b c) := ⟨rfl, rfl, rfl, fun _ _ => rfl, fun _ => Iff.rfl, fun _ _ h => h⟩
theorem again_valid {t : TD} (hv : t.Valid) (b : Bool) (c : Nat) : (t.again b c).Valid := hv

/-! ### Places numbered otherwise -/
def TD.rev (t : TD) (bS : Bool) (cS : Nat) (bL : Bool) (cL : Nat) : TD :=
  { t with slo := fun p => t.slo (t.nS - 1 - p), shi := fun p => t.shi (t.nS - 1 - p), lp := fun i => t.nS - 1 - t.lp (t.nL - 1 - i), lm := fun i => t.lm (t.nL - 1 - i), llo := fun i => t.llo (t.nL - 1 - i), lhi := fun i => t.lhi (t.nL - 1 - i), bS := bS, cS := cS, bL := bL, cL := cL }
def revS (n : Nat) (s : Nat → Int) (p : Nat) : Int := if p < n then s (n - 1 - p) else 0
section
variable {t : TD} {bS : Bool} {cS : Nat} {bL : Bool} {cL : Nat}
theorem rev_valid (hv : t.Valid) : (t.rev bS cS bL cL).Valid := by
  obtain ⟨h1, h2, h3, h4, h5, h6⟩ := hv
  refine ⟨h1, h2, h3, h4, fun i hi => ?_, fun i hi => ?_⟩
  · have hi' : i < t.nS := hi
    exact h5 (t.nS - 1 - i) (by omega)
  · have hi' : i < t.nL := hi
    have := h6 (t.nL - 1 - i) (by omega)
    simp only [TD.lookOk] at this
    simp only [TD.lookOk, TD.rev]
    exact ⟨⟨by omega, by omega⟩, this.2⟩
theorem rev_sds {s : Nat → Int} : s ∈ (t.rev bS cS bL cL).sds ↔ (∀ i, i < t.nS → t.slo (t.nS - 1 - i) ≤ s i ∧ s i ≤ t.shi (t.nS - 1 - i)) ∧ ∀ i, t.nS ≤ i → s i = 0 := sds_mem
theorem revS_in {s : Nat → Int} : s ∈ (t.rev bS cS bL cL).sds → revS t.nS s ∈ t.sds := fun h => by
  obtain ⟨a, b⟩ := rev_sds.1 h
  refine sds_mem.2 ⟨fun i hi => ?_, fun i hi => ?_⟩
  · have := a (t.nS - 1 - i) (by omega)
    rw [show t.nS - 1 - (t.nS - 1 - i) = i by omega] at this
    rw [revS, if_pos hi]
    exact this
  · rw [revS, if_neg (by omega)]
theorem revS_out {s : Nat → Int} (h : s ∈ t.sds) : revS t.nS s ∈ (t.rev bS cS bL cL).sds := by
  obtain ⟨a, b⟩ := sds_mem.1 h
  refine rev_sds.2 ⟨fun i hi => ?_, fun i hi => ?_⟩
  · rw [revS, if_pos hi]
    exact a _ (by omega)
  · rw [revS, if_neg (by omega)]
theorem revS_revS {n : Nat} {s : Nat → Int} (h : ∀ i, n ≤ i → s i = 0) : revS n (revS n s) = s := by
  funext p
  unfold revS
  by_cases hp : p < n
  · rw [if_pos hp, if_pos (by omega), show n - 1 - (n - 1 - p) = p by omega]
  · rw [if_neg hp, h p (by omega)]
theorem rev_right (hv : t.Valid) {h s : Nat → Int} : (t.rev bS cS bL cL).right h s = true ↔ t.right h (revS t.nS s) = true := by
  rw [TD.right, TD.right, allB_iff, allB_iff]
  have key : ∀ i, i < t.nL → (t.rev bS cS bL cL).fit h i (s ((t.rev bS cS bL cL).lp i).toNat) = t.fit h (t.nL - 1 - i) (revS t.nS s (t.lp (t.nL - 1 - i)).toNat) := fun i hi => by
    have hl := hv.2.2.2.2.2 (t.nL - 1 - i) (by omega)
    simp only [TD.lookOk] at hl
    have e : ((t.rev bS cS bL cL).lp i).toNat = t.nS - 1 - (t.lp (t.nL - 1 - i)).toNat := by
      show (t.nS - 1 - t.lp (t.nL - 1 - i)).toNat = _
      omega
    rw [e, revS, if_pos (show (t.lp (t.nL - 1 - i)).toNat < t.nS by omega)]
    rfl
  constructor
  · intro a i hi
    have := a (t.nL - 1 - i) (by show t.nL - 1 - i < t.nL; omega)
    rw [key _ (by omega), show t.nL - 1 - (t.nL - 1 - i) = i by omega] at this
    exact this
  · intro a i hi
    have hi' : i < t.nL := hi
    rw [key i hi']
    exact a _ (by omega)
theorem rev_mem (hv : t.Valid) {x : (Nat → Int) × (Nat → Int)} (hx : x ∈ (t.rev bS cS bL cL).tru) : (x.1, revS t.nS x.2) ∈ t.tru := by
  obtain ⟨h1, h2, h3⟩ := tru_mem.1 hx
  exact tru_mem.2 ⟨h1, revS_in h2, (rev_right hv).1 h3⟩
theorem rev_back (hv : t.Valid) {x : (Nat → Int) × (Nat → Int)} (hx : x ∈ t.tru) : (x.1, revS t.nS x.2) ∈ (t.rev bS cS bL cL).tru := by
  obtain ⟨h1, h2, h3⟩ := tru_mem.1 hx
  refine tru_mem.2 ⟨h1, revS_out h2, (rev_right hv).2 ?_⟩
  show t.right x.1 (revS t.nS (revS t.nS x.2)) = true
  rw [revS_revS (sds_mem.1 h2).2]
  exact h3
end
open Classical in
theorem nodup_le {α : Type} : ∀ {l l' : List α}, l.Nodup → (∀ x ∈ l, x ∈ l') → l.length ≤ l'.length
  | [], _, _, _ => Nat.zero_le _
  | x :: l, l', h, hs => by
    rw [List.nodup_cons] at h
    have hx := hs x List.mem_cons_self
    have := nodup_le (l' := l'.erase x) h.2 fun y hy => (List.mem_erase_of_ne (fun e => h.1 (by rw [← e]; exact hy))).2 (hs y (List.mem_cons_of_mem _ hy))
    rw [List.length_erase_of_mem hx] at this
    have : 0 < l'.length := List.length_pos_iff.2 (List.ne_nil_of_mem hx)
    rw [List.length_cons]
    omega
theorem nodup_map {α β : Type} {f : α → β} : ∀ {l : List α}, l.Nodup → (∀ a ∈ l, ∀ b ∈ l, f a = f b → a = b) → (l.map f).Nodup
  | [], _, _ => List.nodup_nil
  | x :: l, h, hi => by
    rw [List.nodup_cons] at h
    rw [List.map_cons, List.nodup_cons]
    refine ⟨fun hm => ?_, nodup_map h.2 fun a ha b hb e => hi a (List.mem_cons_of_mem _ ha) b (List.mem_cons_of_mem _ hb) e⟩
    obtain ⟨y, hy, e⟩ := List.mem_map.1 hm
    have := hi x List.mem_cons_self y (List.mem_cons_of_mem _ hy) e.symm
    subst this
    exact h.1 hy
theorem tru_nodup (t : TD) : t.tru.Nodup := by
  have : ∀ L : List (Nat → Int), L.Nodup → (L.flatMap fun h => (t.sds.filter (t.right h)).map fun s => (h, s)).Nodup := by
    intro L
    induction L with
    | nil => intro _; exact List.nodup_nil
    | cons h L ih =>
      intro hL
      rw [List.nodup_cons] at hL
      rw [List.flatMap_cons, List.nodup_append]
      refine ⟨?_, ih hL.2, fun a ha b hb e => ?_⟩
      · have hs : (t.sds.filter (t.right h)).Nodup := (lsts_nodup (Nat.le_refl _)).filter _
        exact nodup_map hs fun a _ b _ e => (Prod.mk.inj e).2
      · subst e
        obtain ⟨s, _, rfl⟩ := List.mem_map.1 ha
        obtain ⟨h', hh', hm⟩ := List.mem_flatMap.1 hb
        obtain ⟨s', _, e⟩ := List.mem_map.1 hm
        cases e
        exact hL.1 hh'
  exact this _ (lsts_nodup (Nat.le_refl _))
theorem rev_len {t : TD} (hv : t.Valid) (bS : Bool) (cS : Nat) (bL : Bool) (cL : Nat) : (t.rev bS cS bL cL).tru.length = t.tru.length := by
  have inj : ∀ {u : TD}, u.nS = t.nS → (u.tru.map fun x => (x.1, revS t.nS x.2)).Nodup := fun {u} hu => by
    refine nodup_map (tru_nodup u) ?_
    intro a ha b hb e
    have h1 := (Prod.mk.inj e).1
    have h2 := congrArg (revS t.nS) (Prod.mk.inj e).2
    rw [revS_revS (fun i hi => (sds_mem.1 (tru_mem.1 ha).2.1).2 i (by omega)), revS_revS (fun i hi => (sds_mem.1 (tru_mem.1 hb).2.1).2 i (by omega))] at h2
    exact Prod.ext h1 h2
  have a := nodup_le (inj (u := t.rev bS cS bL cL) rfl) (l' := t.tru) fun x hx => by
    obtain ⟨y, hy, rfl⟩ := List.mem_map.1 hx
    exact rev_mem hv hy
  have b := nodup_le (inj (u := t) rfl) (l' := (t.rev bS cS bL cL).tru) fun x hx => by
    obtain ⟨y, hy, rfl⟩ := List.mem_map.1 hx
    exact rev_back hv hy
  rw [List.length_map] at a b
  omega
section
variable {t : TD} (bS : Bool) (cS : Nat) (bL : Bool) (cL : Nat)
theorem rev_nil (hv : t.Valid) : (t.rev bS cS bL cL).tru = [] ↔ t.tru = [] := by
  have := rev_len hv bS cS bL cL
  constructor
  · intro h
    rw [h] at this
    exact List.eq_nil_of_length_eq_zero this.symm
  · intro h
    rw [h] at this
    exact List.eq_nil_of_length_eq_zero this
theorem rev_count (hv : t.Valid) : (t.rev bS cS bL cL).countT = t.countT := by
  rw [count_tru hv, count_tru (rev_valid hv), rev_len hv]
theorem rev_dep {m : Int} {p : Nat} (hp : p < t.nS) (x : (Nat → Int) × (Nat → Int)) : (t.rev bS cS bL cL).dep m (t.nS - 1 - p) x = t.dep m p (x.1, revS t.nS x.2) := by
  show max0 (t.stand x.1 m - x.2 (t.nS - 1 - p)) = max0 (t.stand x.1 m - revS t.nS x.2 p)
  rw [revS, if_pos hp]
theorem rev_dep' {m : Int} {p : Nat} (hp : p < t.nS) (x : (Nat → Int) × (Nat → Int)) : (t.rev bS cS bL cL).dep m (t.nS - 1 - p) (x.1, revS t.nS x.2) = t.dep m p x := by
  show max0 (t.stand x.1 m - revS t.nS x.2 (t.nS - 1 - p)) = max0 (t.stand x.1 m - x.2 p)
  rw [revS, if_pos (by omega), show t.nS - 1 - (t.nS - 1 - p) = p by omega]
theorem rev_depth (hv : t.Valid) {p : Nat} (hp : p < t.nS) {m : Int} (hm : t.isMin m) : (t.rev bS cS bL cL).depthT ((t.nS - 1 - p : Nat) : Int) m = t.depthT p m := by
  have hv' : (t.rev bS cS bL cL).Valid := rev_valid hv
  have hm' : (t.rev bS cS bL cL).isMin m := hm
  have hp' : t.nS - 1 - p < (t.rev bS cS bL cL).nS := by show t.nS - 1 - p < t.nS; omega
  by_cases hn : t.tru = []
  · have hn' := (rev_nil bS cS bL cL hv).2 hn
    rw [depth_nil hv hn ⟨by omega, by omega⟩ hm, depth_nil hv' hn' ⟨by omega, by show ((t.nS - 1 - p : Nat) : Int) ≤ t.nS - 1; omega⟩ hm']
  · have hn' : (t.rev bS cS bL cL).tru ≠ [] := fun h => hn ((rev_nil bS cS bL cL hv).1 h)
    obtain ⟨a, b, hD⟩ := dep_is hv hn hp hm
    obtain ⟨a', b', hD'⟩ := dep_is hv' hn' hp' hm'
    rw [hD.v, hD'.v]
    have e1 : a' = a := by
      obtain ⟨x, hx, e⟩ := hD.lo
      obtain ⟨y, hy, e'⟩ := hD'.lo
      have h1 := (hD'.bnd _ (rev_back hv hx)).1
      have h2 := (hD.bnd _ (rev_mem hv hy)).1
      rw [rev_dep' bS cS bL cL hp] at h1
      rw [rev_dep bS cS bL cL hp] at e'
      omega
    have e2 : b' = b := by
      obtain ⟨x, hx, e⟩ := hD.hi
      obtain ⟨y, hy, e'⟩ := hD'.hi
      have h1 := (hD'.bnd _ (rev_back hv hx)).2
      have h2 := (hD.bnd _ (rev_mem hv hy)).2
      rw [rev_dep' bS cS bL cL hp] at h1
      rw [rev_dep bS cS bL cL hp] at e'
      omega
    rw [e1, e2]
theorem rev_height (hv : t.Valid) {m : Int} (hm : t.isMin m) : (t.rev bS cS bL cL).height m = t.height m := by
  have hv' : (t.rev bS cS bL cL).Valid := rev_valid hv
  have hm' : (t.rev bS cS bL cL).isMin m := hm
  by_cases hn : t.tru = []
  · rw [height_nil hv hn hm, height_nil hv' ((rev_nil bS cS bL cL hv).2 hn) hm']
  · have hn' : (t.rev bS cS bL cL).tru ≠ [] := fun h => hn ((rev_nil bS cS bL cL hv).1 h)
    obtain ⟨a, b, hD⟩ := hgt_is hv hn hm
    obtain ⟨a', b', hD'⟩ := hgt_is hv' hn' hm'
    rw [hD.v, hD'.v]
    have st : ∀ h, (t.rev bS cS bL cL).stand h m = t.stand h m := fun _ => rfl
    have e1 : a' = a := by
      obtain ⟨x, hx, e⟩ := hD.lo
      obtain ⟨y, hy, e'⟩ := hD'.lo
      have h1 := (hD'.bnd _ (rev_back hv hx)).1
      have h2 := (hD.bnd _ (rev_mem hv hy)).1
      rw [st] at h1 e'
      simp only at h1 h2
      omega
    have e2 : b' = b := by
      obtain ⟨x, hx, e⟩ := hD.hi
      obtain ⟨y, hy, e'⟩ := hD'.hi
      have h1 := (hD'.bnd _ (rev_back hv hx)).2
      have h2 := (hD.bnd _ (rev_mem hv hy)).2
      rw [st] at h1 e'
      simp only at h1 h2
      omega
    rw [e1, e2]
theorem rev_places (hv : t.Valid) {m : Int} (hm : t.isMin m) {l h : Int} (hl : 0 ≤ l ∧ l ≤ 60) (hh : 0 ≤ h ∧ h ≤ 60) :
    ∃ S P S' P' : Nat → Bool, ∃ e : Int, t.placesT m l h = ⟨(bitsF S t.nS, bitsF P t.nS), e⟩ ∧ (t.rev bS cS bL cL).placesT m l h = ⟨(bitsF S' t.nS, bitsF P' t.nS), e⟩ ∧ ∀ q, q < t.nS → S' (t.nS - 1 - q) = S q ∧ P' (t.nS - 1 - q) = P q := by
  have hv' : (t.rev bS cS bL cL).Valid := rev_valid hv
  have hm' : (t.rev bS cS bL cL).isMin m := hm
  by_cases hn : t.tru = []
  · have h1 := (all_nil hv).2 hn
    have h2 := (all_nil hv').2 ((rev_nil bS cS bL cL hv).2 hn)
    have z : ∀ n, bitsF (fun _ => false) n = 0 := fun n => by
      induction n with
      | zero => rfl
      | succ n ih => simpa [bitsF] using ih
    refine ⟨fun _ => false, fun _ => false, fun _ => false, fun _ => false, 10, ?_, ?_, fun q _ => ⟨rfl, rfl⟩⟩
    · unfold TD.placesT
      rw [if_neg (fun h => h hv), if_neg (fun h => h ⟨hm, hl, hh⟩), if_pos h1, z]
    · unfold TD.placesT
      rw [if_neg (fun h => h hv'), if_neg (fun h => h ⟨hm', hl, hh⟩), if_pos h2, z]
  · have hn' : (t.rev bS cS bL cL).tru ≠ [] := fun h => hn ((rev_nil bS cS bL cL hv).1 h)
    obtain ⟨S, P, e, hP⟩ := places_law hv hn hm hl hh
    obtain ⟨S', P', e', hP'⟩ := places_law hv' hn' hm' hl hh
    refine ⟨S, P, S', P', 0, e, e', fun q hq => ?_⟩
    obtain ⟨a, b⟩ := hP q hq
    obtain ⟨a', b'⟩ := hP' (t.nS - 1 - q) (by show t.nS - 1 - q < t.nS; omega)
    rw [num_all] at a a'
    rw [num_pos] at b b'
    constructor
    · rw [Bool.eq_iff_iff, a, a']
      constructor
      · intro g x hx
        have := g _ (rev_back hv hx)
        rwa [rev_dep' bS cS bL cL hq] at this
      · intro g x hx
        have := g _ (rev_mem hv hx)
        rwa [← rev_dep bS cS bL cL hq] at this
    · rw [Bool.eq_iff_iff, b, b']
      constructor
      · rintro ⟨x, hx, g⟩
        exact ⟨_, rev_mem hv hx, by rwa [← rev_dep bS cS bL cL hq]⟩
      · rintro ⟨x, hx, g⟩
        exact ⟨_, rev_back hv hx, by rwa [rev_dep' bS cS bL cL hq]⟩
end
end Go.Proofs.YtipbempkngfdbaaDoor
/-
  Code that is walked up to some place, and said anew there.
-/
namespace Go.Sy
open Go
set_option maxRecDepth 100000

/-- As X, but stops behind k steps. -/
def XK (E : Env) (P : Program) (r : Option Nat) (n : Nat) : Nat → Code → St → List Prop → KS → Prop
  | 0, c, s, ob, K => fcP ob fun ob => AllP ob ∧ CodeP P r n c s fun se s => K se s []
  | k + 1, .seq a b, s, ob, K => X E P r n a s ob (seqK (fun s ob => XK E P r n k b s ob K) K)
  | _ + 1, c, s, ob, K => X E P r n c s ob K
theorem XK_owed {E : Env} {P : Program} {r : Option Nat} {n : Nat} : ∀ (k : Nat) (c : Code) (s : St) (ob : List Prop) (K : KS), Good K → XK E P r n k c s ob K → AllP ob
  | 0, c, s, ob, K, _, h => by
    simp only [XK, fcP_eq] at h
    exact h.1
  | k + 1, c, s, ob, K, hK, h => by
    cases c with
    | seq a b =>
      refine X_owed a s ob _ (fun se s ob hk => ?_) h
      cases se with
      | normal => exact XK_owed k b s ob K hK hk
      | _ => exact hK _ _ _ hk
    | _ => exact X_owed _ s ob K hK h
theorem XK_ok {E : Env} {P : Program} (hE : E.ok P) {r : Option Nat} {n : Nat} : ∀ (k : Nat) (c : Code) (s : St) (ob : List Prop) (K : KS) (K0 : SE → St → Prop), Good K → (∀ se s ob, K se s ob → K0 se s) → XK E P r n k c s ob K → CodeP P r n c s K0
  | 0, c, s, ob, K, K0, hK, hKK, h => by
    simp only [XK, fcP_eq] at h
    exact fun η0 η φ w0 Ef w a h1 h2 h3 h4 h5 => wpIn_mono (h.2 η0 η φ w0 Ef w a h1 h2 h3 h4 h5) fun e a w ⟨se, s, η', φ', k, rest⟩ => ⟨se, s, η', φ', hKK _ _ _ k, rest⟩
  | k + 1, c, s, ob, K, K0, hK, hKK, h => by
    cases c with
    | seq a b =>
      have hb : ∀ s ob, XK E P r n k b s ob K → CodeP P r n b s K0 := fun s ob hk => XK_ok hE k b s ob K K0 hK hKK hk
      have ha := X_ok hE a s ob _ (fun se s => match se with | .normal => CodeP P r n b s K0 | se => K0 se s) (fun se s ob hk => by
        cases se with
        | normal => exact XK_owed k b s ob K hK hk
        | _ => exact hK _ _ _ hk) (fun se s ob hk => by
        cases se with
        | normal => exact hb _ _ hk
        | _ => exact hKK _ _ _ hk) h
      intro η0 η φ w0 Ef w a' h1 h2 h3 h4 h5
      refine wpIn_seq (wpIn_mono (ha η0 η φ w0 Ef w a' h1 h2 h3 h4 h5) ?_)
      rintro e a w ⟨se, s, η', φ', k, p1, p2, pe, p3, p4, p5⟩
      cases se with
      | normal =>
        have pe : e = .normal := pe
        subst pe
        exact k η0 η' φ' w0 Ef w a p1 p2 p3 p4 p5
      | exit i =>
        have pe : e = .exit i := pe
        subst pe
        exact ⟨.exit i, s, η', φ', k, p1, p2, rfl, p3, p4, p5⟩
      | goto l =>
        have pe : e = .goto l := pe
        subst pe
        exact ⟨.goto l, s, η', φ', k, p1, p2, rfl, p3, p4, p5⟩
      | ret =>
        have pe : e = .ret := pe
        subst pe
        exact ⟨.ret, s, η', φ', k, p1, p2, rfl, p3, p4, p5⟩
      | panic v =>
        obtain ⟨u, hu, rfl⟩ := pe
        exact ⟨.panic v, s, η', φ', k, p1, p2, ⟨u, hu, rfl⟩, p3, p4, p5⟩
    | _ => exact X_ok hE _ s ob K K0 hK hKK h
/-- Code, walked up to some place. -/
theorem codeP_XK {E : Env} {P : Program} (hE : E.ok P) (k : Nat) {r : Option Nat} {n : Nat} {c : Code} {s : St} {K : SE → St → Prop} (h : fcSt s fun s => XK E P r n k c s [] fun se s ob => fcP ob fun ob => AllP ob ∧ K se s) : CodeP P r n c s K := by
  rw [fcSt_eq] at h
  exact XK_ok hE k c s [] _ K (fun se s ob hk => by rw [fcP_eq] at hk; exact hk.1) (fun se s ob hk => by rw [fcP_eq] at hk; exact hk.2) h
theorem callP_enterK {E : Env} {P : Program} (hE : E.ok P) (k : Nat) {f : Nat} {fn : Func} {c : Code} {args : List SV} {h : SHeap} {K : CE → SHeap → Prop} (hf : P.funcs[f]? = some fn) (hb : fn.body = some c)
    (hx : XK E P none h.length k c ⟨initT args fn.ntmps, h, []⟩ [] (retKS E fn.results.toList K)) : CallP P f args h K := by
  intro η φ w0 Ef w vs hs hd
  have hc := XK_ok hE k c _ _ _ (fun se s => ∃ ob, retKS E fn.results.toList K se s ob) (retKS_good E fn.results.toList K) (fun se s ob hk => ⟨ob, hk⟩) hx η η φ w0 Ef w { tmps := vs.toArray ++ Array.replicate (fn.ntmps - vs.toArray.size) undef, defers := [] } (Pin.refl _ _) (Nat.le_refl _) hs (initT_ok hd fn.ntmps) rfl
  refine calls_of_wp hf hb (wp_mono (wpIn_wide.1 hc) ?_)
  rintro e a w' ⟨se, s, η', φ', ⟨ob, k⟩, p1, p2, pe, p3, p4, p5⟩
  unfold retKS at k
  split at k
  · rename_i hD
    split at k
    · rename_i us ob' hr
      rw [fcP_eq, fcV_eq] at k
      obtain ⟨ko, k⟩ := k
      obtain ⟨u, h1, h2⟩ := run_results (P := P) hE p3 p4 hr (AllP_iff.2 fun p hp => AllP_iff.1 ko p (List.mem_append_left _ hp))
      have pe : e = .normal := pe
      subst pe
      rw [hD] at p5
      exact ⟨by simpa [DRel] using p5.symm, u, h2, _, _, η', φ', k, p2, p1, ⟨u, h1, rfl⟩, p3⟩
    · exact k.elim
  · rename_i hD
    split at k
    · rename_i us ob' hr
      rw [fcP_eq, fcV_eq] at k
      obtain ⟨ko, k⟩ := k
      obtain ⟨u, h1, h2⟩ := run_results (P := P) hE p3 p4 hr (AllP_iff.2 fun p hp => AllP_iff.1 ko p (List.mem_append_left _ hp))
      have pe : e = .ret := pe
      subst pe
      rw [hD] at p5
      exact ⟨by simpa [DRel] using p5.symm, u, h2, _, _, η', φ', k, p2, p1, ⟨u, h1, rfl⟩, p3⟩
    · exact k.elim
  · rename_i v hD
    rw [fcP_eq] at k
    obtain ⟨u, hu, rfl⟩ := pe
    rw [hD] at p5
    exact ⟨by simpa [DRel] using p5.symm, _, _, η', φ', k.2, p2, p1, ⟨u, hu, rfl⟩, p3⟩
  · exact k.elim
/-- A function, walked up to some place. -/
theorem callRK {E : Env} {P : Program} (hE : E.ok P) (k : Nat) {f : Nat} {fn : Func} {c : Code} {args : List SV} {h h2 : SHeap} {v' : SV} (hf : P.funcs[f]? = some fn) (hb : fn.body = some c)
    (hx : XK E P none h.length k c ⟨initT args fn.ntmps, h, []⟩ [] (retKS E fn.results.toList fun ce h1 => match ce with
      | .ret v => Ent h.length ⟨[some (none, v)], h1, []⟩ ⟨[some (none, v')], h2, []⟩
      | .panic _ => False)) : CallP P f args h (Ret v' h2) :=
  CallP.ent ((callP_enterK hE k hf hb hx).mono fun ce h1 hk => by
    cases ce with
    | ret v => exact ⟨.ret v', h2, ⟨rfl, rfl⟩, hk⟩
    | panic v => exact hk.elim)
theorem callKK {E : Env} {P : Program} (hE : E.ok P) (k : Nat) {f : Nat} {fn : Func} {c : Code} {args : List SV} {h : SHeap} {K : CE → SHeap → Prop} (hf : P.funcs[f]? = some fn) (hb : fn.body = some c)
    (hx : XK E P none h.length k c ⟨initT args fn.ntmps, h, []⟩ [] (retKS E fn.results.toList fun ce h1 => ∃ ce' h2, K ce' h2 ∧ EntC h.length ce h1 ce' h2)) : CallP P f args h K :=
  CallP.ent (callP_enterK hE k hf hb hx)
/-- What is left of code behind k steps. -/
def dropSeq : Nat → Code → Code
  | 0, c => c
  | k + 1, .seq _ b => dropSeq k b
  | _ + 1, c => c
def sufC (f : Func) (k : Nat) : Code := match f.body with
  | some c => dropSeq k c
  | none => .skip
/-- What is left to show of a function that is to return v in h2. -/
def KRet (E : Env) (f : Func) (n : Nat) (v' : SV) (h2 : SHeap) : SE → St → Prop := fun se s => retKS E f.results.toList (fun ce h1 => match ce with
  | .ret v => Ent n ⟨[some (none, v)], h1, []⟩ ⟨[some (none, v')], h2, []⟩
  | .panic _ => False) se s []
/-- The next part of a function, walked by itself. -/
theorem CodeP.part {P : Program} {r : Option Nat} {n : Nat} {c : Code} {s t : St} {K : SE → St → Prop} (hc : CodeP P r n c t K) (he : Ent n s t) : CodeP P r n c s (fun se s => fcP [] fun ob => AllP ob ∧ K se s) :=
  CodeP.pre he (hc.mono fun se s h => by rw [fcP_eq]; exact ⟨trivial, h⟩)
end Go.Sy
/-
  Contract: dipworkslaw01.with: a tide with a look more.
-/
namespace Go.Proofs.YtipbempkngfdbaaDoor
open Go Go.Sy
set_option linter.unusedSimpArgs false
set_option maxRecDepth 100000
set_option maxHeartbeats 4000000
attribute [local irreducible] CallP CodeP Ent YieldP

def KWith (t : TD) (a m lo hi : Int) : CE → SHeap → Prop := fun ce h' => ∃ cap : Nat, t.nL + 1 ≤ cap ∧ cap ≤ 9223372036854775807 ∧
  ce = .ret (.agg [.osl t.bM 0 3 t.nM t.cM, .osl t.bS 1 2 t.nS t.cS, .slice 5 4 0 (t.nL + 1) cap]) ∧ h' = t.HG ++ [some (.arr 4 (t.nL + 1) cap (row4 (t.plus a m lo hi cap).lp (t.plus a m lo hi cap).lm (t.plus a m lo hi cap).llo (t.plus a m lo hi cap).lhi))]
def pl35_1s : Plan := .eager 1 <| .eager 4 <| .alt 0 (.alt 2 (.alt 3 (.alt 5 (.alt 6 (.eager 7 <| .alt 8 .done .no) .no) .no) (.alt 5 (.alt 3 (.alt 6 (.eager 7 <| .alt 8 .done .no) .no) .no) .no)) (.alt 5 (.alt 2 (.alt 3 (.alt 6 (.eager 7 <| .alt 8 .done .no) .no) .no) .no) .no)) (.alt 2 (.alt 0 (.alt 3 (.alt 5 (.alt 6 (.eager 7 <| .alt 8 .done .no) .no) .no) (.alt 5 (.alt 3 (.alt 6 (.eager 7 <| .alt 8 .done .no) .no) .no) .no)) (.alt 5 (.alt 0 (.alt 3 (.alt 6 (.eager 7 <| .alt 8 .done .no) .no) .no) .no) .no)) (.alt 5 (.alt 0 (.alt 2 (.alt 3 (.alt 6 (.eager 7 <| .alt 8 .done .no) .no) .no) .no) (.alt 2 (.alt 0 (.alt 3 (.alt 6 (.eager 7 <| .alt 8 .done .no) .no) .no) .no) .no)) .no))
theorem t35 (t : TD) (hL : t.nL ≤ 1000) (a m lo hi : Int) : CallP Tryd.prog 35 [t.A, .agg [.int .i64 a, .int .i64 m, .int .i64 lo, .int .i64 hi]] t.HG (KWith t a m lo hi) := by
  refine callK (E := E) E_ok Tryd.func35 rfl ?_
  refine And.intro ?_ ?_
  · (repeat' (first | exact trivial | exact fun _ => rfl | exact rfl | refine And.intro ?_ ?_))
  have b1 : (0 + t.nL) * 32 ≤ 140737488355328 := by omega
  have b2 : (0 + t.nL + 1) * 32 ≤ 140737488355328 := by omega
  have hrow : ∀ (g0 : Nat → List SV) (cap k : Nat), k < 0 + t.nL + 1 → selL (decide (k < 0 + t.nL)) (selL (decide (k < 0)) (g0 k) (row4 t.lp t.lm t.llo t.lhi (0 + (k - 0)))) (getOf 4 [.int .i64 a, .int .i64 m, .int .i64 lo, .int .i64 hi] (0 + (k - (0 + t.nL)))) = row4 (t.plus a m lo hi cap).lp (t.plus a m lo hi cap).lm (t.plus a m lo hi cap).llo (t.plus a m lo hi cap).lhi k := by
    intro g0 cap k hk
    rw [Nat.zero_add] at hk
    simp only [Nat.zero_add, Nat.sub_zero, Nat.not_lt_zero, decide_false, selL_false]
    rcases Nat.lt_succ_iff_lt_or_eq.1 hk with h | rfl
    · rw [decide_eq_true h, selL_true]
      simp only [row4, TD.plus, if_neg (show ¬ k = t.nL by omega)]
    · rw [decide_eq_false (Nat.lt_irrefl _), selL_false, Nat.sub_self]
      simp only [row4, TD.plus, if_true]
      rfl
  refine drawP E_ok [6] pl35_1s (by kernel_rfl) ?_
  (repeat' (first | exact trivial | exact fun _ => rfl | exact rfl | refine And.intro ?_ ?_))
  all_goals first | exact Nat.le_refl _ | exact Nat.zero_le _ | exact Nat.le_of_eq (Nat.zero_add _) | exact b1 | exact (fun k hk => rfl) | intro c1 hc1 hc2
  all_goals (repeat' (first | exact trivial | exact fun _ => rfl | exact rfl | refine And.intro ?_ ?_))
  all_goals first | exact Nat.le_refl _ | exact Nat.zero_le _ | exact b2 | exact hc2 | exact hc1 | exact (fun k hk => by have := Nat.lt_one_iff.1 hk; subst this; rfl) | intro c2 hc3 hc4
  all_goals refine And.intro ?_ trivial
  all_goals refine And.intro trivial (And.intro rfl ?_)
  all_goals refine And.intro trivial ⟨_, _, ⟨c2, by have : 0 + t.nL + 1 ≤ c2 := hc3; omega, hc4, rfl, rfl⟩, ?_⟩
  all_goals refine ent_tau [0, 1, 2, 3, 4, 11] ⟨?_, ?_, rfl⟩
  all_goals (repeat' (first | exact trivial | exact rfl | exact fun _ _ => rfl | exact Or.inl rfl | refine And.intro ?_ ?_))
  all_goals first | exact congrArg (· + 1) (Nat.zero_add t.nL) | exact congrArg (fun n => SV.agg [.osl t.bM 0 3 t.nM t.cM, .osl t.bS 1 2 t.nS t.cS, .slice 11 4 0 (n + 1) c2]) (Nat.zero_add t.nL) | exact fun k hk => hrow _ c2 k hk
end Go.Proofs.YtipbempkngfdbaaDoor
/-
  Contract: dipworkslaw01.TideMoves.
-/
namespace Go.Proofs.YtipbempkngfdbaaDoor
open Go Go.Sy
set_option linter.unusedSimpArgs false
set_option maxRecDepth 100000
set_option maxHeartbeats 4000000
attribute [local irreducible] CallP CodeP Ent YieldP

theorem un {p : Prop} (h : p) : under none p := h
theorem tell (t : TD) (m : Int) {lo hi e : Int} (h : t.height m = ⟨(lo, hi), e⟩) : CallP Tryd.prog 22 [t.A, .int .i64 m] t.HG (Ret (.tup [.agg [.int .i64 lo, .int .i64 hi], .int .i64 e]) t.HG) := by
  have h2 := t22 t m
  rw [h] at h2
  exact h2
theorem Hull.le {t : TD} {m lo hi : Int} (h : Hull t m lo hi) : lo ≤ hi := by
  obtain ⟨u, hu, _⟩ := h.lo
  have := h.bnd u hu
  omega
theorem d1 (x : Bool) : under none (x = false → (some (gB none (wB false x))).getD true = true) := fun h => by rw [h]; rfl
theorem d1t (x : Bool) : under none (x = true → (some (gB none (wB true x))).getD true = true) := fun h => by rw [h]; rfl
theorem d3 (g x : Bool) : under (some g) (x = true → (some (gB (some g) (wB true x))).getD true = true) := fun hg h => by rw [hg, h]; rfl
theorem d3f (g x : Bool) : under (some g) (x = false → (some (gB (some g) (wB false x))).getD true = true) := fun hg h => by rw [hg, h]; rfl
theorem d4 {g : Bool} {p : Prop} (h : p) : under (some g) p := fun _ => h
theorem d2 (g : Bool) : under (some g) (g = true) := fun h => h
theorem t9 (t : TD) (ht : t.ok) (w a : Int) (hw : 0 ≤ w ∧ w ≤ 255) (ha : 0 ≤ a ∧ a ≤ 255) : CallP Tryd.prog 9 [t.A, .int .u8 w, .int .u8 a] t.HG (Ret (.bool true) t.HG) := by
  refine callR (E := E) E_ok Tryd.func9 rfl ?_
  refine And.intro ?_ ?_
  · simp [AllP, under, gB, wB, inR_iff, IntKind.bits]
  refine (t33 t).use [0, 1, 2] ?_ (by (repeat' (first | exact trivial | exact rfl | exact fun _ _ => rfl | exact Or.inl rfl | refine And.intro ?_ ?_))) rfl
  refine And.intro ?_ (And.intro (fun hl => ?_) (fun hl => ?_))
  · simp [AllP, under, gB, wB, inR_iff, IntKind.bits]
  · refine (t34 t ht).use [0, 1, 2] ?_ (by (repeat' (first | exact trivial | exact rfl | exact fun _ _ => rfl | exact Or.inl rfl | refine And.intro ?_ ?_))) rfl
    refine And.intro ?_ (And.intro (fun hb => ?_) (fun hb => ?_))
    · simp [AllP, under, gB, wB, inR_iff, IntKind.bits]
    · refine And.intro trivial ?_
      refine (t14).use [3, 4] ?_ (by (repeat' (first | exact trivial | exact rfl | exact fun _ _ => rfl | exact Or.inl rfl | refine And.intro ?_ ?_))) rfl
      refine And.intro trivial ?_
      exact ent_tau [0, 1, 2, 3, 4] ⟨by (repeat' (first | exact trivial | exact rfl | exact fun _ _ => rfl | exact Or.inl rfl | refine And.intro ?_ ?_)), by (repeat' (first | exact trivial | exact rfl | exact congrArg (SV.int .i64) (Int.natCast_succ _).symm | refine And.intro ?_ ?_)), rfl⟩
    · have hv : t.Valid := by
        cases hc : decide (40 < max (max t.nM t.nS) t.nL)
        · rw [hc] at hb
          have hb2 : (!t.valid) = false := hb
          simpa [TD.valid] using hb2
        · rw [hc] at hb
          cases hb
      have hM := hv.1
      have hq0 := Int.tmod_nonneg ((t.nM : Int) - 1) hw.1
      have hq1 := Int.tmod_lt_of_pos w (show 0 < (t.nM : Int) - 1 by omega)
      obtain ⟨j, ej⟩ : ∃ j : Nat, 1 + w.tmod ((t.nM : Int) - 1) = j := ⟨(1 + w.tmod ((t.nM : Int) - 1)).toNat, by omega⟩
      have hj1 : 1 ≤ j := by omega
      have hj : j < t.nM := by omega
      have e1 : 0 + ((j : Int) - 1).toNat = j - 1 := by omega
      have e2 : 0 + ((j : Int)).toNat = j := by omega
      refine And.intro ?_ ?_
      · simp only [AllP, under, inR_iff, and_true]
        refine ⟨?_, ?_, ?_, ?_⟩ <;> intros <;> omega
      refine cutP [] [(2, .int .u8 a), (3, .ptr 5 0), (6, .bool false), (7, .int .i64 j)] (fun _ => [some (.roa 3 t.nM (row3 t.mi t.mlo t.mhi)), some (.roa 2 t.nS (row2 t.slo t.shi)), some (.roa 4 t.nL (row4 t.lp t.lm t.llo t.lhi)), some (.glob 0 [.int .i64 0, .int .i64 1, .int .i64 3, .int .i64 6, .int .i64 9, .int .i64 11, .int .i64 12]), some db, some (.cells [.osl t.bM 0 3 t.nM t.cM, .osl t.bS 1 2 t.nS t.cS, .osl t.bL 2 4 t.nL t.cL])]) ?_ ?_
      · refine ent_tau [0, 1, 2, 3, 4, 5] ⟨by (repeat' (first | exact trivial | exact rfl | exact fun _ _ => rfl | exact Or.inl rfl | refine And.intro ?_ ?_)), ?_, rfl⟩
        (repeat' (first | exact trivial | exact rfl | exact congrArg (SV.int .i64) ej | refine And.intro ?_ ?_))
      refine drawP E_ok [5] pl9_4 (by kernel_rfl) ?_
      refine have main : (?X : Prop) := ?Y; ?_
      rotate_right
      · (repeat' (first | exact True.intro | exact fun _ => rfl | exact rfl | refine And.intro ?_ ?_))
        all_goals try (clear main; first | exact un (by omega) | omega)
        · refine cutP [] [(2, .int .u8 a), (3, .ptr 5 0), (6, .bool false), (7, .int .i64 j), (8, .ptr 6 0), (9, .ptr 7 0)] (fun _ => [some (.roa 3 t.nM (row3 t.mi t.mlo t.mhi)), some (.roa 2 t.nS (row2 t.slo t.shi)), some (.roa 4 t.nL (row4 t.lp t.lm t.llo t.lhi)), some (.glob 0 [.int .i64 0, .int .i64 1, .int .i64 3, .int .i64 6, .int .i64 9, .int .i64 11, .int .i64 12]), some db, some (.cells [.osl t.bM 0 3 t.nM t.cM, .osl t.bS 1 2 t.nS t.cS, .osl t.bL 2 4 t.nL t.cL]), some (.cells [.int .i64 (t.mi (j - 1)), .int .i64 (t.mlo (j - 1)), .int .i64 (t.mhi (j - 1))]), some (.cells [.int .i64 (t.mi j), .int .i64 (t.mlo j), .int .i64 (t.mhi j)])]) ?_ ?_
          · refine ent_tau [0, 1, 2, 3, 4, 5, 6, 7] ⟨?_, by (repeat' (first | exact trivial | exact rfl | exact congrArg (SV.int .i64) (Int.natCast_succ _).symm | refine And.intro ?_ ?_)), rfl⟩
            (repeat' (first | exact trivial | exact rfl | exact fun _ _ => rfl | exact Or.inl rfl | refine And.intro ?_ ?_))
            · rw [e1]
              rfl
            · rw [e2]
              rfl
          exact main
        · refine cutP [] [(2, .int .u8 a), (3, .ptr 5 0), (6, .bool false), (7, .int .i64 j), (8, .ptr 6 0), (9, .ptr 7 0)] (fun _ => [some (.roa 3 t.nM (row3 t.mi t.mlo t.mhi)), some (.roa 2 t.nS (row2 t.slo t.shi)), some (.roa 4 t.nL (row4 t.lp t.lm t.llo t.lhi)), some (.glob 0 [.int .i64 0, .int .i64 1, .int .i64 3, .int .i64 6, .int .i64 9, .int .i64 11, .int .i64 12]), some db, some (.cells [.osl t.bM 0 3 t.nM t.cM, .osl t.bS 1 2 t.nS t.cS, .osl t.bL 2 4 t.nL t.cL]), some (.cells [.int .i64 (t.mi (j - 1)), .int .i64 (t.mlo (j - 1)), .int .i64 (t.mhi (j - 1))]), some (.cells [.int .i64 (t.mi j), .int .i64 (t.mlo j), .int .i64 (t.mhi j)])]) ?_ ?_
          · refine ent_tau [0, 1, 2, 3, 4, 5, 7, 6] ⟨?_, by (repeat' (first | exact trivial | exact rfl | exact congrArg (SV.int .i64) (Int.natCast_succ _).symm | refine And.intro ?_ ?_)), rfl⟩
            (repeat' (first | exact trivial | exact rfl | exact fun _ _ => rfl | exact Or.inl rfl | refine And.intro ?_ ?_))
            · rw [e1]
              rfl
            · rw [e2]
              rfl
          exact main
      have st := hv.step (i := j) (by omega) hj
      have mk1 := hv.marks (i := j - 1) (by omega)
      have mk2 := hv.marks (i := j) hj
      simp only [TD.markOk] at mk1 mk2
      have r0 := Int.tmod_nonneg (t.mi j - t.mi (j - 1)) ha.1
      have r1 := Int.tmod_lt_of_pos a (show 0 < t.mi j - t.mi (j - 1) by omega)
      refine drawP E_ok [6, 7] pl9_5 (by kernel_rfl) ?_
      refine And.intro ?_ ?_
      · simp only [AllP, under, inR_iff, and_true]
        refine ⟨?_, ?_, ?_, ?_⟩ <;> omega
      refine And.intro rfl ?_
      have mA : ∀ m : Int, t.mi (j - 1) ≤ m → m ≤ t.mi j → t.isMin m := fun m h1 h2 => ⟨Int.le_trans (mi_le hv (Nat.zero_le _) (by omega)) h1, Int.le_trans h2 (mi_le hv (by omega) (by omega))⟩
      have mS : t.isMin ((t.mi (j - 1) + a.tmod (t.mi j - t.mi (j - 1)))) := mA _ (by omega) (by omega)
      have mN : t.isMin ((t.mi (j - 1) + a.tmod (t.mi j - t.mi (j - 1))) + 1) := mA _ (by omega) (by omega)
      have mX : t.isMin (t.mi (j - 1)) := mA _ (by omega) (by omega)
      have mY : t.isMin (t.mi j) := mA _ (by omega) (by omega)
      by_cases hn : t.all = []
      · have eZ : ∀ m, t.isMin m → t.height m = ⟨(0, 0), 10⟩ := fun m hm => by unfold TD.height; rw [if_neg (fun h => h hv), if_neg (fun h => h hm), if_pos hn]
        have cS := tell t ((t.mi (j - 1) + a.tmod (t.mi j - t.mi (j - 1)))) (eZ _ mS)
        have cN := tell t ((t.mi (j - 1) + a.tmod (t.mi j - t.mi (j - 1))) + 1) (eZ _ mN)
        have cX := tell t (t.mi (j - 1)) (eZ _ mX)
        have cY := tell t (t.mi j) (eZ _ mY)
        refine And.intro ?_ ?_
        · simp [AllP, under, gB, wB, inR_iff, IntKind.bits]
          first | done | omega
        refine (cS).use [0, 1, 2, 3, 4] ?_ (by (repeat' (first | exact trivial | exact rfl | exact fun _ _ => rfl | exact Or.inl rfl | refine And.intro ?_ ?_))) rfl
        refine And.intro ?_ ?_
        · simp [AllP, under, gB, wB, inR_iff, IntKind.bits]
          first | done | omega
        refine (cN).use [0, 1, 2, 3, 4] ?_ (by (repeat' (first | exact trivial | exact rfl | exact fun _ _ => rfl | exact Or.inl rfl | refine And.intro ?_ ?_))) rfl
        refine And.intro ?_ ?_
        · simp [AllP, under, gB, wB, inR_iff, IntKind.bits]
          first | done | omega
        refine (cX).use [0, 1, 2, 3, 4] ?_ (by (repeat' (first | exact trivial | exact rfl | exact fun _ _ => rfl | exact Or.inl rfl | refine And.intro ?_ ?_))) rfl
        refine And.intro ?_ ?_
        · simp [AllP, under, gB, wB, inR_iff, IntKind.bits]
          first | done | omega
        refine (cY).use [0, 1, 2, 3, 4] ?_ (by (repeat' (first | exact trivial | exact rfl | exact fun _ _ => rfl | exact Or.inl rfl | refine And.intro ?_ ?_))) rfl
        refine And.intro ?_ ?_
        · simp [AllP, under, gB, wB, inR_iff, IntKind.bits]
          first | done | omega
        refine And.intro (fun h => absurd h (by decide)) (fun _ => ?_)
        refine And.intro ?_ (And.intro (fun h => ?_) (fun h => absurd h (by decide)))
        · simp [AllP, under, gB, wB, inR_iff, IntKind.bits]
        refine And.intro ?_ (And.intro (fun h => ?_) (fun h => absurd h (by decide)))
        · (repeat' (first | exact trivial | exact fun _ => rfl | exact rfl | refine And.intro ?_ ?_))
        refine (t14).use [3, 4] ?_ (by (repeat' (first | exact trivial | exact rfl | exact fun _ _ => rfl | exact Or.inl rfl | refine And.intro ?_ ?_))) rfl
        refine And.intro ?_ ?_
        · (repeat' (first | exact trivial | exact fun _ => rfl | exact rfl | refine And.intro ?_ ?_))
        exact ent_tau [0, 1, 2, 3, 4] ⟨by (repeat' (first | exact trivial | exact rfl | exact fun _ _ => rfl | exact Or.inl rfl | refine And.intro ?_ ?_)), by (repeat' (first | exact trivial | exact rfl | exact congrArg (SV.int .i64) (Int.natCast_succ _).symm | refine And.intro ?_ ?_)), rfl⟩
      · obtain ⟨sl, sh, hS⟩ := hull hv hn mS
        obtain ⟨nl, nh, hN⟩ := hull hv hn mN
        obtain ⟨xl, xh, hX⟩ := hull hv hn mX
        obtain ⟨yl, yh, hY⟩ := hull hv hn mY
        have cS := tell t ((t.mi (j - 1) + a.tmod (t.mi j - t.mi (j - 1)))) hS.v
        have cN := tell t ((t.mi (j - 1) + a.tmod (t.mi j - t.mi (j - 1))) + 1) hN.v
        have cX := tell t (t.mi (j - 1)) hX.v
        have cY := tell t (t.mi j) hY.v
        refine And.intro ?_ ?_
        · simp [AllP, under, gB, wB, inR_iff, IntKind.bits]
          first | done | omega
        refine (cS).use [0, 1, 2, 3, 4] ?_ (by (repeat' (first | exact trivial | exact rfl | exact fun _ _ => rfl | exact Or.inl rfl | refine And.intro ?_ ?_))) rfl
        refine And.intro ?_ ?_
        · simp [AllP, under, gB, wB, inR_iff, IntKind.bits]
          first | done | omega
        refine (cN).use [0, 1, 2, 3, 4] ?_ (by (repeat' (first | exact trivial | exact rfl | exact fun _ _ => rfl | exact Or.inl rfl | refine And.intro ?_ ?_))) rfl
        refine And.intro ?_ ?_
        · simp [AllP, under, gB, wB, inR_iff, IntKind.bits]
          first | done | omega
        refine (cX).use [0, 1, 2, 3, 4] ?_ (by (repeat' (first | exact trivial | exact rfl | exact fun _ _ => rfl | exact Or.inl rfl | refine And.intro ?_ ?_))) rfl
        refine And.intro ?_ ?_
        · simp [AllP, under, gB, wB, inR_iff, IntKind.bits]
          first | done | omega
        refine (cY).use [0, 1, 2, 3, 4] ?_ (by (repeat' (first | exact trivial | exact rfl | exact fun _ _ => rfl | exact Or.inl rfl | refine And.intro ?_ ?_))) rfl
        refine And.intro ?_ ?_
        · simp [AllP, under, gB, wB, inR_iff, IntKind.bits]
          first | done | omega
        refine And.intro (fun h => absurd h (by decide)) (fun _ => ?_)
        refine And.intro ?_ (And.intro (fun h => absurd h (by decide)) (fun h => ?_))
        · simp [AllP, under, gB, wB, inR_iff, IntKind.bits]
        have hm := moves hv hj1 hj (by omega) (by omega) hS hN hX hY
        obtain ⟨m1, m2, m3, m4, m5⟩ := hm
        refine And.intro ?_ (And.intro (fun h => ?_) (fun h => ?_))
        · (repeat' (first | exact True.intro | exact d1 _ | exact d1t _ | exact d2 _ | exact d3 _ _ | exact d3f _ _ | exact fun _ _ => rfl | exact fun _ => rfl | exact rfl | refine And.intro ?_ ?_))
        · exfalso
          simp at h
          omega
        refine And.intro ?_ (And.intro (fun h => ?_) (fun h => ?_))
        · (repeat' (first | exact True.intro | exact d1 _ | exact d1t _ | exact d2 _ | exact d3 _ _ | exact d3f _ _ | exact fun _ _ => rfl | exact fun _ => rfl | exact rfl | refine And.intro ?_ ?_))
        · exfalso
          simp at h
          omega
        refine And.intro ?_ (And.intro (fun h => ?_) (fun h => ?_))
        · simp [AllP, under, gB, wB, inR_iff, IntKind.bits]
          omega
        · have h2 : (t.mi j - t.mi (j - 1)) % 2 = 0 := by
            have h3 : (t.mi j - t.mi (j - 1)).tmod 2 = 0 := by simpa using h
            rwa [Int.tmod_eq_emod_of_nonneg (by omega)] at h3
          have e3 : (t.mi (j - 1) + t.mi j).tdiv 2 = (t.mi (j - 1) + t.mi j) / 2 := Int.tdiv_eq_ediv_of_nonneg (by omega)
          have mK : t.isMin ((t.mi (j - 1) + t.mi j).tdiv 2) := mA _ (by omega) (by omega)
          obtain ⟨kl, kh, hK⟩ := hull hv hn mK
          have cK := tell t ((t.mi (j - 1) + t.mi j).tdiv 2) hK.v
          obtain ⟨g1, g2⟩ := movesHalf hv hj1 hj (by omega) hK hX hY
          have lX := hX.le
          have lY := hY.le
          have e4 : (xl + yl).tdiv 2 = (xl + yl) / 2 := Int.tdiv_eq_ediv_of_nonneg (by omega)
          have e5 : (xh + yh).tdiv 2 = (xh + yh) / 2 := Int.tdiv_eq_ediv_of_nonneg (by omega)
          refine And.intro ?_ ?_
          · simp [AllP, under, gB, wB, inR_iff, IntKind.bits]
            omega
          refine (cK).use [0, 1, 2, 3, 4] ?_ (by (repeat' (first | exact trivial | exact rfl | exact fun _ _ => rfl | exact Or.inl rfl | refine And.intro ?_ ?_))) rfl
          refine And.intro ?_ (And.intro (fun h => ?_) (fun h => ?_))
          · (repeat' (first | exact True.intro | exact d1 _ | exact d1t _ | exact d2 _ | exact d3 _ _ | exact d3f _ _ | exact fun _ _ => rfl | exact fun _ => rfl | exact rfl | refine And.intro ?_ ?_))
            all_goals first | omega | exact un (by omega) | exact d4 (by omega) | exact d4 ((inR_iff _).2 ⟨by omega, by omega⟩)
          · exfalso
            simp [e4, e5] at h
            omega
          refine And.intro trivial ?_
          refine (t14).use [3, 4] ?_ (by (repeat' (first | exact trivial | exact rfl | exact fun _ _ => rfl | exact Or.inl rfl | refine And.intro ?_ ?_))) rfl
          refine And.intro trivial ?_
          exact ent_tau [0, 1, 2, 3, 4] ⟨by (repeat' (first | exact trivial | exact rfl | exact fun _ _ => rfl | exact Or.inl rfl | refine And.intro ?_ ?_)), by (repeat' (first | exact trivial | exact rfl | exact congrArg (SV.int .i64) (Int.natCast_succ _).symm | refine And.intro ?_ ?_)), rfl⟩
        · refine And.intro trivial ?_
          refine (t14).use [3, 4] ?_ (by (repeat' (first | exact trivial | exact rfl | exact fun _ _ => rfl | exact Or.inl rfl | refine And.intro ?_ ?_))) rfl
          refine And.intro trivial ?_
          exact ent_tau [0, 1, 2, 3, 4] ⟨by (repeat' (first | exact trivial | exact rfl | exact fun _ _ => rfl | exact Or.inl rfl | refine And.intro ?_ ?_)), by (repeat' (first | exact trivial | exact rfl | exact congrArg (SV.int .i64) (Int.natCast_succ _).symm | refine And.intro ?_ ?_)), rfl⟩
  · have hl2 : decide (40 < max (max t.nM t.nS) t.nL) = true := by
      cases hc : decide (40 < max (max t.nM t.nS) t.nL)
      · rw [hc] at hl
        cases hl
      · rfl
    refine And.intro ?_ (And.intro (fun hb => ?_) (fun hb => ?_))
    · (repeat' (first | exact True.intro | exact d1 _ | exact d1t _ | exact d2 _ | exact d3 _ _ | exact d3f _ _ | exact fun _ _ => rfl | exact fun _ => rfl | exact rfl | refine And.intro ?_ ?_))
      exact fun h => absurd (h.symm.trans hl) (by decide)
    · refine And.intro trivial ?_
      refine (t14).use [3, 4] ?_ (by (repeat' (first | exact trivial | exact rfl | exact fun _ _ => rfl | exact Or.inl rfl | refine And.intro ?_ ?_))) rfl
      refine And.intro trivial ?_
      exact ent_tau [0, 1, 2, 3, 4] ⟨by (repeat' (first | exact trivial | exact rfl | exact fun _ _ => rfl | exact Or.inl rfl | refine And.intro ?_ ?_)), by (repeat' (first | exact trivial | exact rfl | exact congrArg (SV.int .i64) (Int.natCast_succ _).symm | refine And.intro ?_ ?_)), rfl⟩
    · rw [hl2] at hb
      cases hb
end Go.Proofs.YtipbempkngfdbaaDoor
