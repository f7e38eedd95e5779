/-
  Parts: C14, C10.
-/
import Derived.Test.YtipbempkngfdbaaDoorK24
import Derived.Test.YtipbempkngfdbaaDoorK23
/-
  Depths that are told, and how many truths have each, by truths one by one.
-/
namespace Go.Proofs.YtipbempkngfdbaaDoor
open Go Go.Sy
set_option maxRecDepth 100000
set_option maxHeartbeats 4000000

/-- How deep it is at a place at a minute. -/
def TD.dep (t : TD) (m : Int) (p : Nat) (x : (Nat → Int) × (Nat → Int)) : Int := max0 (t.stand x.1 m - x.2 p)
theorem max0_mono {a b : Int} (h : a ≤ b) : max0 a ≤ max0 b := by
  unfold max0
  split <;> split <;> omega
theorem max0_nn (a : Int) : 0 ≤ max0 a := by
  unfold max0
  split <;> omega
/-- What is told of the depth, where there are truths. -/
structure DepIs (t : TD) (p : Nat) (m lo hi : Int) : Prop where
  v : t.depthT p m = ⟨(lo, hi), 0⟩
  bnd : ∀ x ∈ t.tru, lo ≤ t.dep m p x ∧ t.dep m p x ≤ hi
  lo : ∃ x ∈ t.tru, t.dep m p x = lo
  hi : ∃ x ∈ t.tru, t.dep m p x = hi
theorem dep_is {t : TD} (hv : t.Valid) (hn : t.tru ≠ []) {p : Nat} (hp : p < t.nS) {m : Int} (hm : t.isMin m) : ∃ lo hi, DepIs t p m lo hi := by
  have hna : t.all ≠ [] := fun h => hn ((all_nil hv).1 h)
  have hpl : t.isPl (p : Int) := ⟨by omega, by omega⟩
  have key : ∀ h ∈ t.hts, t.some h = true → (t.tr h).s p = t.set h p ∧ SetIs t h p ∧ t.set h p ≠ 0 := fun h _ hs => by
    refine ⟨?_, set_is hv h hp, (some_iff hv).1 hs p hp⟩
    simp only [TD.tr, if_pos hp]
  have pick : ∀ h ∈ t.hts, t.some h = true → ∀ v, t.slo p ≤ v → v ≤ t.shi p → t.ok1 h p v = true → ∃ x ∈ t.tru, x.1 = h ∧ x.2 p = v := fun h hh hs v h1 h2 h3 => by
    obtain ⟨g1, g2⟩ := sand_right hv (h := h) (f := fun q => if q = p then v else loE (t.set h q)) fun q hq => by
      by_cases e : q = p
      · subst e
        simp only [if_true]
        exact ⟨h1, h2, h3⟩
      · simp only [if_neg e]
        exact ((set_is hv h hq).ends ((some_iff hv).1 hs q hq)).1
    refine ⟨(h, _), tru_mem.2 ⟨hh, g1, g2⟩, rfl, ?_⟩
    show (if p < t.nS then (if p = p then v else loE (t.set h p)) else 0) = v
    rw [if_pos hp, if_pos rfl]
  refine ⟨_, _, ⟨by simp only [TD.depthT, hv, hpl, hm, hna, not_true, if_false, and_self]; rfl, fun x hx => ?_, ?_, ?_⟩⟩
  · obtain ⟨h1, h2, h3⟩ := tru_mem.1 hx
    have hs := some_of hv h2 h3
    obtain ⟨e, si, hne⟩ := key _ h1 hs
    have hy : t.tr x.1 ∈ t.all := all_mem.2 ⟨_, h1, hs, rfl⟩
    have a1 := (hul_mem (a := a98 t m p) hy).1
    have a2 := (hul_mem (a := b98 t m p) hy).2
    have b := (si.ends hne).2.2 (x.2 p) ((sds_mem.1 h2).1 p hp).1 ((sds_mem.1 h2).1 p hp).2 ((right_iff hv).1 h3 p hp)
    have c1 : a98 t m p (t.tr x.1) ≤ t.dep m p x := by
      unfold a98 TD.dep
      rw [e]
      exact max0_mono (by have := b.2; show t.stand x.1 m - _ ≤ _; omega)
    have c2 : t.dep m p x ≤ b98 t m p (t.tr x.1) := by
      unfold b98 TD.dep
      rw [e]
      exact max0_mono (by have := b.1; show _ ≤ t.stand x.1 m - _; omega)
    exact ⟨Int.le_trans a1 c1, Int.le_trans c2 a2⟩
  · obtain ⟨⟨y, hy, ey⟩, _⟩ := hul_ex (a := a98 t m p) hna
    obtain ⟨h, h1, h2, rfl⟩ := all_mem.1 hy
    obtain ⟨e, si, hne⟩ := key h h1 h2
    obtain ⟨x, hx, e1, e2⟩ := pick h h1 h2 _ (si.ends hne).2.1.1 (si.ends hne).2.1.2.1 (si.ends hne).2.1.2.2
    refine ⟨x, hx, ?_⟩
    show _ = hulLo (a98 t m p) t.all t.all.length
    rw [ey]
    unfold a98 TD.dep
    rw [e, e1, e2]
    rfl
  · obtain ⟨_, y, hy, ey⟩ := hul_ex (a := b98 t m p) hna
    obtain ⟨h, h1, h2, rfl⟩ := all_mem.1 hy
    obtain ⟨e, si, hne⟩ := key h h1 h2
    obtain ⟨x, hx, e1, e2⟩ := pick h h1 h2 _ (si.ends hne).1.1 (si.ends hne).1.2.1 (si.ends hne).1.2.2
    refine ⟨x, hx, ?_⟩
    show _ = hulHi (b98 t m p) t.all t.all.length
    rw [ey]
    unfold b98 TD.dep
    rw [e, e1, e2]
    rfl

/-! ### How many truths have a depth -/
theorem filter_or_len {α : Type} {a b : α → Bool} : ∀ {l : List α}, (∀ x ∈ l, ¬ (a x = true ∧ b x = true)) → (l.filter fun x => a x || b x).length = (l.filter a).length + (l.filter b).length
  | [], _ => rfl
  | x :: l, h => by
    have ih := filter_or_len (l := l) fun y hy => h y (List.mem_cons_of_mem _ hy)
    have hx := h x List.mem_cons_self
    cases ha : a x <;> cases hb : b x
    · simp [ha, hb, ih]
    · simp [ha, hb, ih]; omega
    · simp [ha, hb, ih]; omega
    · exact absurd ⟨ha, hb⟩ hx
theorem cntI_at (q : Int → Bool) (lo v : Int) : ∀ c, cntI (fun x => q x && decide (x = v)) lo c = if lo ≤ v ∧ v < lo + c ∧ q v = true then 1 else 0
  | 0 => by rw [cntI, if_neg (by omega)]
  | c + 1 => by
    rw [cntI, cntI_at q lo v c]
    by_cases e : lo + c = v
    · rw [← e]
      cases h : q (lo + c)
      · simp
      · rw [if_neg (by omega), if_pos (by simp), if_pos ⟨by omega, by omega, rfl⟩]
    · rw [if_neg (show ¬ (q (lo + c) && decide (lo + c = v)) = true by simp [e])]
      by_cases h : lo ≤ v ∧ v < lo + c ∧ q v = true
      · rw [if_pos h, if_pos ⟨h.1, by omega, h.2.2⟩]
      · rw [if_neg h, if_neg (fun h2 => h ⟨h2.1, by omega, h2.2.2⟩)]
theorem oc_pow {v : Nat} (h : v < 61) : oc64 ((2 ^ v : Nat) : Int) = 1 := by
  have := few_all v h 1 (by decide) (by decide)
  simp only [fewOk, Bool.and_eq_true, decide_eq_true_eq, Nat.one_mul] at this
  exact this.2.2.1
theorem count_one {t : TD} (hv : t.Valid) (h : Nat → Int) {p : Nat} (hp : p < t.nS) {v : Int} (h1 : t.slo p ≤ v) (h2 : v ≤ t.shi p) (h3 : t.ok1 h p v = true) :
    manyF ((t.tr h).one p ((2 ^ v.toNat : Nat) : Int)) t.nS = ((t.sds.filter fun s => t.right h s && decide (s p = v)).length : Int) := by
  have hs := hv.2.2.2.2.1 p hp
  simp only [TD.sandOk] at hs
  have e := lsts_count (lo := t.slo) (hi := t.shi) (n := t.nS) (fun i x => if i = p then t.ok1 h i x && decide (x = v) else t.ok1 h i x) (r := t.nS) (h := fun _ => 0) (Nat.le_refl _)
  rw [Nat.sub_self] at e
  have e2 : t.sds.filter (fun s => t.right h s && decide (s p = v)) = t.sds.filter fun x => allF (fun i => if i = p then t.ok1 h i (x i) && decide (x i = v) else t.ok1 h i (x i)) 0 t.nS := List.filter_congr fun x _ => by
    rw [right_all hv, Bool.eq_iff_iff, Bool.and_eq_true, allF_iff, allF_iff]
    constructor
    · rintro ⟨a, b⟩ i hi hi'
      have := a i hi hi'
      split
      · rename_i e3
        subst e3
        simp only [Bool.and_eq_true]
        exact ⟨this, b⟩
      · exact this
    · intro a
      refine ⟨fun i hi hi' => ?_, ?_⟩
      · have := a i hi hi'
        split at this
        · simp only [Bool.and_eq_true] at this
          exact this.1
        · exact this
      · have := a p (by omega) (by omega)
        rw [if_pos rfl, Bool.and_eq_true] at this
        exact this.2
  rw [e2, TD.sds, e]
  have := manyF_prod ((t.tr h).one p ((2 ^ v.toNat : Nat) : Int)) (fun i => cntI (fun x => if i = p then t.ok1 h i x && decide (x = v) else t.ok1 h i x) (t.slo i) (t.shi i - t.slo i + 1).toNat) t.nS 0 fun i _ hi => by
    have hi' : i < t.nS := by omega
    simp only [Tr.one, upd, TD.tr]
    by_cases e3 : i = p
    · subst e3
      simp only [if_true]
      rw [cntI_at, if_pos ⟨h1, by omega, h3⟩, oc_pow (by omega)]
      rfl
    · simp only [if_neg e3, if_pos hi']
      exact (set_is hv h hi').many
  rw [Nat.zero_add, manyF, Int.one_mul] at this
  exact this

/-- How many truths with these heights of marks have a depth. -/
def TD.atH (t : TD) (m : Int) (p : Nat) (k : Int) (h : Nat → Int) : Int := ((t.sds.filter fun s => t.right h s && decide (t.dep m p (h, s) = k)).length : Int)
theorem depIn_aval {t : TD} (hv : t.Valid) {m : Int} {p : Nat} (hp : p < t.nS) (h : Nat → Int) (M : List (Int × Int)) (k : Int) : ∀ c : Nat, t.slo p + c ≤ t.shi p + 1 →
    aval (depIn t m p (t.tr h) c M) k = aval M k + ((t.sds.filter fun s => (t.right h s && decide (t.dep m p (h, s) = k)) && decide (s p < t.slo p + c)).length : Int)
  | 0, _ => by
    have : (t.sds.filter fun s => (t.right h s && decide (t.dep m p (h, s) = k)) && decide (s p < t.slo p + (0 : Nat))) = [] := List.filter_eq_nil_iff.2 fun s hs hq => by
      have := (sds_mem.1 hs).1 p hp
      simp only [Bool.and_eq_true, decide_eq_true_eq] at hq
      omega
    rw [this]
    simp [depIn]
  | c + 1, hc => by
    have ih := depIn_aval hv hp h M k (m := m) c (by omega)
    have si := set_is hv h hp
    have hb := si.bit (t.slo p + c) (by omega) (by omega)
    have hx : (t.tr h).s p = t.set h p := by simp only [TD.tr, if_pos hp]
    have split : (t.sds.filter fun s => (t.right h s && decide (t.dep m p (h, s) = k)) && decide (s p < t.slo p + (c + 1 : Nat))).length = (t.sds.filter fun s => (t.right h s && decide (t.dep m p (h, s) = k)) && decide (s p < t.slo p + c)).length + (t.sds.filter fun s => (t.right h s && decide (t.dep m p (h, s) = k)) && decide (s p = t.slo p + c)).length := by
      rw [← filter_or_len]
      · congr 1
        refine List.filter_congr fun s _ => ?_
        rw [Bool.eq_iff_iff]
        simp only [Bool.and_eq_true, Bool.or_eq_true, decide_eq_true_eq]
        constructor
        · rintro ⟨a, b⟩
          by_cases e : s p = t.slo p + c
          · exact .inr ⟨a, e⟩
          · exact .inl ⟨a, by omega⟩
        · rintro (⟨a, b⟩ | ⟨a, b⟩)
          · exact ⟨a, by omega⟩
          · exact ⟨a, by omega⟩
      · intro s _ ⟨a, b⟩
        simp only [Bool.and_eq_true, decide_eq_true_eq] at a b
        omega
    rw [split, depIn, depStep, hx]
    cases hok : t.ok1 h p (t.slo p + c)
    · rw [hok, if_neg (by decide)] at hb
      rw [if_pos hb, ih]
      have : (t.sds.filter fun s => (t.right h s && decide (t.dep m p (h, s) = k)) && decide (s p = t.slo p + c)) = [] := List.filter_eq_nil_iff.2 fun s hs hq => by
        simp only [Bool.and_eq_true, decide_eq_true_eq] at hq
        have := (right_iff hv).1 hq.1.1 p hp
        rw [hq.2, hok] at this
        cases this
      rw [this]
      simp
    · rw [hok, if_pos rfl] at hb
      have hs := hv.2.2.2.2.1 p hp
      simp only [TD.sandOk] at hs
      have hp2 : 0 < 2 ^ (t.slo p + (c : Int)).toNat := Nat.pow_pos (by omega)
      rw [if_neg (by rw [hb]; omega), hb, aval_aset, ih, count_one hv h hp (by omega) (by omega) hok]
      have ek : depKey t m (t.tr h) (t.slo p + c) = max0 (t.stand h m - (t.slo p + c)) := rfl
      by_cases e : depKey t m (t.tr h) (t.slo p + c) = k
      · rw [if_pos e]
        subst e
        have ih2 := ih
        rw [ih]
        have : (t.sds.filter fun s => t.right h s && decide (s p = t.slo p + c)) = t.sds.filter fun s => (t.right h s && decide (t.dep m p (h, s) = depKey t m (t.tr h) (t.slo p + c))) && decide (s p = t.slo p + c) := List.filter_congr fun s _ => by
          rw [Bool.eq_iff_iff]
          simp only [Bool.and_eq_true, decide_eq_true_eq]
          constructor
          · rintro ⟨a, b⟩
            exact ⟨⟨a, by rw [ek, ← b]; rfl⟩, b⟩
          · rintro ⟨⟨a, _⟩, b⟩
            exact ⟨a, b⟩
        rw [this]
        push_cast
        omega
      · rw [if_neg e]
        have : (t.sds.filter fun s => (t.right h s && decide (t.dep m p (h, s) = k)) && decide (s p = t.slo p + c)) = [] := List.filter_eq_nil_iff.2 fun s hs hq => by
          simp only [Bool.and_eq_true, decide_eq_true_eq] at hq
          apply e
          rw [ek, ← hq.1.2, ← hq.2]
          rfl
        rw [this]
        simp
theorem depIn_all {t : TD} (hv : t.Valid) {m : Int} {p : Nat} (hp : p < t.nS) (h : Nat → Int) (M : List (Int × Int)) (k : Int) : aval (depIn t m p (t.tr h) (t.shi p - t.slo p + 1).toNat M) k = aval M k + t.atH m p k h := by
  have hs := hv.2.2.2.2.1 p hp
  simp only [TD.sandOk] at hs
  rw [depIn_aval hv hp h M k _ (by omega), TD.atH]
  congr 3
  refine List.filter_congr fun s hs' => ?_
  have := (sds_mem.1 hs').1 p hp
  have e : decide (s p < t.slo p + ((t.shi p - t.slo p + 1).toNat : Int)) = true := decide_eq_true (by omega)
  rw [e, Bool.and_true]

def sumI {α : Type} (f : α → Int) : List α → Int
  | [] => 0
  | x :: l => f x + sumI f l
theorem sumI_app {α : Type} (f : α → Int) : ∀ a b : List α, sumI f (a ++ b) = sumI f a + sumI f b
  | [], b => by simp [sumI]
  | x :: a, b => by simp only [List.cons_append, sumI, sumI_app f a b]; omega
theorem depOut_aval {t : TD} {m : Int} {p : Nat} {g : List Tr} {k : Int} (φ : Tr → Int) (hφ : ∀ x ∈ g, ∀ M, aval (depIn t m p x (t.shi p - t.slo p + 1).toNat M) k = aval M k + φ x) : ∀ j, j ≤ g.length → aval (depOut t m p g j) k = sumI φ (g.take j)
  | 0, _ => by simp [depOut, aval, aget, sumI]
  | j + 1, hj => by
    rw [depOut, hφ _ (getD_mem (by omega)), depOut_aval φ hφ j (by omega), List.take_add_one, List.getElem?_eq_getElem (by omega), sumI_app, List.getD_eq_getElem?_getD, List.getElem?_eq_getElem (by omega)]
    simp [sumI]
/-- How many truths have a depth at a place at a minute. -/
def TD.cnt (t : TD) (m : Int) (p : Nat) (k : Int) : Nat := (t.tru.filter fun x => decide (t.dep m p x = k)).length
theorem sum_tru {t : TD} (hv : t.Valid) (m : Int) (p : Nat) (k : Int) : ∀ L : List (Nat → Int), sumI (fun x => t.atH m p k x.h) (L.flatMap fun g => if t.some g = true then [t.tr g] else []) =
    (((L.flatMap fun h => (t.sds.filter (t.right h)).map fun s => (h, s)).filter fun x => decide (t.dep m p x = k)).length : Int)
  | [] => rfl
  | h :: L => by
    have e1 : (((t.sds.filter (t.right h)).map fun s => (h, s)).filter fun x => decide (t.dep m p x = k)).length = (t.sds.filter fun s => t.right h s && decide (t.dep m p (h, s) = k)).length := by
      rw [List.filter_map, List.length_map, List.filter_filter]
      congr 1
      exact List.filter_congr fun s _ => by rw [Bool.and_comm]; rfl
    rw [List.flatMap_cons, List.flatMap_cons, sumI_app, sum_tru hv m p k L, List.filter_append, List.length_append, e1]
    push_cast
    congr 1
    split
    · simp only [sumI, Int.add_zero]
      rfl
    · rename_i hn
      have : (t.sds.filter fun s => t.right h s && decide (t.dep m p (h, s) = k)) = [] := List.filter_eq_nil_iff.2 fun s hs hq => by
        simp only [Bool.and_eq_true] at hq
        exact hn (some_of hv hs hq.1)
      rw [this]
      rfl
theorem depAll_cnt {t : TD} (hv : t.Valid) {m : Int} {p : Nat} (hp : p < t.nS) (k : Int) : aval (depAll t m p) k = (t.cnt m p k : Int) := by
  have h1 := depOut_aval (t := t) (m := m) (p := p) (g := t.all) (k := k) (fun x => t.atH m p k x.h) (fun x hx M => by
    obtain ⟨h, _, _, rfl⟩ := all_mem.1 hx
    exact depIn_all hv hp h M k) t.all.length (Nat.le_refl _)
  rw [List.take_length] at h1
  rw [depAll, h1]
  have := sum_tru hv m p k t.hts
  rwa [← all_eq] at this

/-! ### The map itself -/
/-- No key twice, and no number that is not above 0. -/
structure MapOk (M : List (Int × Int)) : Prop where
  nd : (M.map Prod.fst).Nodup
  pos : ∀ q ∈ M, 0 < q.2
theorem aget_nd {M : List (Int × Int)} (h : (M.map Prod.fst).Nodup) {q : Int × Int} (hq : q ∈ M) : aval M q.1 = q.2 := by
  induction M with
  | nil => simp at hq
  | cons a l ih =>
    obtain ⟨x, y⟩ := a
    rw [List.map_cons, List.nodup_cons] at h
    rcases List.mem_cons.1 hq with rfl | h2
    · simp [aval, aget]
    · have hne : x ≠ q.1 := fun e => h.1 (by rw [show (x, y).1 = q.1 from e]; exact List.mem_map_of_mem h2)
      have := ih h.2 h2
      unfold aval at this ⊢
      simp only [aget, if_neg hne]
      cases hc : aget l q.1 with
      | none => rw [hc] at this; simpa using this
      | some u => rw [hc] at this; simpa using this
theorem aval_mem {M : List (Int × Int)} {k : Int} (h : aval M k ≠ 0) : ∃ q ∈ M, q.1 = k ∧ q.2 = aval M k := by
  rcases aget_spec (k := k) (m := M) with ⟨h1, _⟩ | ⟨j, v, h1, h2⟩
  · exfalso
    apply h
    simp [aval, h1]
  · exact ⟨(k, v), List.mem_of_getElem? h2, rfl, by simp [aval, h1]⟩
theorem aset_ok {M : List (Int × Int)} (h : MapOk M) (k : Int) {v : Int} (hv : 0 < v) : MapOk (aset M k v) := by
  unfold aset
  rcases aget_spec (k := k) (m := M) with ⟨h1, h2⟩ | ⟨j, u, h1, h2⟩
  · rw [h1]
    refine ⟨?_, fun q hq => ?_⟩
    · rw [List.map_append, List.nodup_append]
      refine ⟨h.nd, by simp, fun a ha b hb e => ?_⟩
      simp only [List.map_cons, List.map_nil, List.mem_singleton] at hb
      subst hb
      subst e
      obtain ⟨q, hq, e⟩ := List.mem_map.1 ha
      exact h2 q hq e
    · rcases List.mem_append.1 hq with hq | hq
      · exact h.pos q hq
      · simp only [List.mem_singleton] at hq
        subst hq
        exact hv
  · rw [h1]
    refine ⟨?_, fun q hq => ?_⟩
    · have : (M.set j (k, v)).map Prod.fst = M.map Prod.fst := by
        apply List.ext_getElem?
        intro i
        rw [List.getElem?_map, List.getElem?_map, List.getElem?_set]
        by_cases e : j = i
        · subst e
          rw [if_pos rfl, h2]
          have : j < M.length := by
            rcases Nat.lt_or_ge j M.length with h | h
            · exact h
            · rw [List.getElem?_eq_none h] at h2; cases h2
          simp [this]
        · rw [if_neg e]
      show ((M.set j (k, v)).map Prod.fst).Nodup
      rw [this]
      exact h.nd
    · rcases List.mem_or_eq_of_mem_set hq with hq | rfl
      · exact h.pos q hq
      · exact hv
theorem depStep_ok {t : TD} (hv : t.Valid) {m : Int} {p : Nat} {x : Tr} (hx : fullTr t x) {n : Int} (h0 : 0 ≤ n) (h1 : n ≤ 60) {M : List (Int × Int)} (hM : MapOk M) : MapOk (depStep t m p x n M) := by
  unfold depStep
  split
  · exact hM
  · rename_i hb
    refine aset_ok hM _ ?_
    have hm := many_le hv (one_full hx p h0 h1 hb)
    have : 0 ≤ aval M (depKey t m x n) := by
      rcases Decidable.em (aval M (depKey t m x n) = 0) with e | e
      · omega
      · obtain ⟨q, hq, _, e2⟩ := aval_mem e
        have := hM.pos q hq
        omega
    omega
theorem depIn_ok {t : TD} (hv : t.Valid) {m : Int} {p : Nat} (hp : p < t.nS) {x : Tr} (hx : fullTr t x) {M : List (Int × Int)} (hM : MapOk M) : ∀ c : Nat, t.slo p + c ≤ t.shi p + 1 → MapOk (depIn t m p x c M)
  | 0, _ => hM
  | c + 1, hc => by
    have hs := hv.2.2.2.2.1 p hp
    simp only [TD.sandOk] at hs
    exact depStep_ok hv hx (by omega) (by omega) (depIn_ok hv hp hx hM c (by omega))
theorem depOut_ok {t : TD} (hv : t.Valid) {m : Int} {p : Nat} (hp : p < t.nS) {g : List Tr} (hg : ∀ x ∈ g, fullTr t x) : ∀ j, j ≤ g.length → MapOk (depOut t m p g j)
  | 0, _ => ⟨by simp [depOut], fun q hq => by simp [depOut] at hq⟩
  | j + 1, hj => by
    have hs := hv.2.2.2.2.1 p hp
    simp only [TD.sandOk] at hs
    exact depIn_ok hv hp (hg _ (getD_mem (by omega))) (depOut_ok hv hp hg j (by omega)) _ (by omega)
theorem depAll_ok {t : TD} (hv : t.Valid) {m : Int} {p : Nat} (hp : p < t.nS) : MapOk (depAll t m p) := depOut_ok hv hp (all_full hv) _ (Nat.le_refl _)
theorem cnt_pos {t : TD} {m : Int} {p : Nat} {k : Int} : 0 < t.cnt m p k ↔ ∃ x ∈ t.tru, t.dep m p x = k := by
  rw [TD.cnt, List.length_pos_iff_exists_mem]
  simp [List.mem_filter]
theorem any_dep {t : TD} (hv : t.Valid) {m : Int} {p : Nat} (hp : p < t.nS) (f : Int → Bool) : ((depAll t m p).any fun q => f q.1) = true ↔ ∃ x ∈ t.tru, f (t.dep m p x) = true := by
  have ok := depAll_ok hv hp (m := m)
  rw [List.any_eq_true]
  constructor
  · rintro ⟨q, hq, hf⟩
    have h1 := aget_nd ok.nd hq
    have h2 := ok.pos q hq
    rw [depAll_cnt hv hp] at h1
    obtain ⟨x, hx, e⟩ := cnt_pos.1 (show 0 < t.cnt m p q.1 by omega)
    exact ⟨x, hx, by rw [e]; exact hf⟩
  · rintro ⟨x, hx, hf⟩
    have h1 : 0 < t.cnt m p (t.dep m p x) := cnt_pos.2 ⟨x, hx, rfl⟩
    have h2 := depAll_cnt hv hp (m := m) (t.dep m p x)
    obtain ⟨q, hq, e, _⟩ := aval_mem (show aval (depAll t m p) (t.dep m p x) ≠ 0 by omega)
    exact ⟨q, hq, by rw [e]; exact hf⟩
theorem maxV_le : ∀ {M : List (Int × Int)} {q : Int × Int}, q ∈ M → q.2 ≤ maxV M
  | [], _, h => by simp at h
  | a :: l, q, h => by
    simp only [maxV]
    rcases List.mem_cons.1 h with rfl | h
    · omega
    · have := maxV_le h
      omega
theorem maxV_ex : ∀ {M : List (Int × Int)}, maxV M = 0 ∨ ∃ q ∈ M, q.2 = maxV M
  | [] => .inl rfl
  | a :: l => by
    simp only [maxV]
    rcases Int.le_total (maxV l) a.2 with h | h
    · exact .inr ⟨a, List.mem_cons_self, by omega⟩
    · rcases maxV_ex (M := l) with h2 | ⟨q, hq, e⟩
      · rcases Int.lt_or_le 0 a.2 with h3 | h3
        · omega
        · exact .inl (by omega)
      · exact .inr ⟨q, List.mem_cons_of_mem _ hq, by omega⟩
/-- The greatest number of truths with the same depth. -/
theorem max_dep {t : TD} (hv : t.Valid) {m : Int} {p : Nat} (hp : p < t.nS) (hn : t.tru ≠ []) : (∀ k, (t.cnt m p k : Int) ≤ maxV (depAll t m p)) ∧ ∃ x ∈ t.tru, maxV (depAll t m p) = t.cnt m p (t.dep m p x) := by
  have ok := depAll_ok hv hp (m := m)
  have le : ∀ k, (t.cnt m p k : Int) ≤ maxV (depAll t m p) := fun k => by
    rcases Nat.eq_zero_or_pos (t.cnt m p k) with h | h
    · rw [h]
      exact (maxV_app (depAll t m p) []).2
    · have h2 := depAll_cnt hv hp (m := m) k
      obtain ⟨q, hq, e, e2⟩ := aval_mem (show aval (depAll t m p) k ≠ 0 by omega)
      have := maxV_le hq
      omega
  refine ⟨le, ?_⟩
  rcases maxV_ex (M := depAll t m p) with h | ⟨q, hq, e⟩
  · exfalso
    obtain ⟨x, hx⟩ := List.exists_mem_of_ne_nil _ hn
    have h1 : 0 < t.cnt m p (t.dep m p x) := cnt_pos.2 ⟨x, hx, rfl⟩
    have := le (t.dep m p x)
    omega
  · have h1 := aget_nd ok.nd hq
    have h2 := ok.pos q hq
    rw [depAll_cnt hv hp] at h1
    obtain ⟨x, hx, e1⟩ := cnt_pos.1 (show 0 < t.cnt m p q.1 by omega)
    exact ⟨x, hx, by rw [e1]; omega⟩
theorem nextF_spec (f : Nat → Int) : ∀ n, 0 < n → ∃ p : Nat, nextF f n = ((p : Int), f p) ∧ p < n ∧ ∀ q, q < n → f p ≤ f q ∧ (q < p → f p < f q)
  | 0, h => by omega
  | k + 1, _ => by
    simp only [nextF]
    rcases Nat.eq_zero_or_pos k with rfl | hk
    · refine ⟨0, by simp, by omega, fun q hq => ?_⟩
      have : q = 0 := by omega
      subst this
      exact ⟨Int.le_refl _, fun h => by omega⟩
    · obtain ⟨p, e, h1, h2⟩ := nextF_spec f k hk
      rw [e]
      by_cases h : f k < f p
      · rw [if_pos (.inr h)]
        refine ⟨k, rfl, by omega, fun q hq => ?_⟩
        rcases Nat.lt_succ_iff_lt_or_eq.1 hq with h3 | rfl
        · have := (h2 q h3).1
          exact ⟨by omega, fun _ => by omega⟩
        · exact ⟨Int.le_refl _, fun h => by omega⟩
      · rw [if_neg (by simp only; omega)]
        refine ⟨p, rfl, by omega, fun q hq => ?_⟩
        rcases Nat.lt_succ_iff_lt_or_eq.1 hq with h3 | rfl
        · exact h2 q h3
        · exact ⟨by omega, fun h => by omega⟩
end Go.Proofs.YtipbempkngfdbaaDoor
/-
  Contract: dipworkslaw01.TideServed.
-/
namespace Go.Proofs.YtipbempkngfdbaaDoor
open Go Go.Sy
set_option linter.unusedSimpArgs false
set_option maxRecDepth 100000
set_option maxHeartbeats 4000000
attribute [local irreducible] CallP CodeP Ent YieldP

theorem t8 (t : TD) (ht : t.ok) (w a b c : Int) (s : Bool) (hw : 0 ≤ w ∧ w ≤ 255) (ha : 0 ≤ a ∧ a ≤ 255) (hb : 0 ≤ b ∧ b ≤ 255) (hc : 0 ≤ c ∧ c ≤ 255) :
    CallP Tryd.prog 8 [t.A, .int .u8 w, .int .u8 a, .int .u8 b, .int .u8 c, .bool s] t.HG (Ret (.bool true) t.HG) := by
  refine callR (E := E) E_ok Tryd.func8 rfl ?_
  refine And.intro ?_ ?_
  · simp [AllP, under, gB, wB, inR_iff, IntKind.bits]
  refine CallP.frameH (t13 t ht 300) [0, 1, 2] (by (repeat' (first | exact trivial | exact rfl | exact fun _ _ => rfl | exact Or.inl rfl | refine And.intro ?_ ?_))) rfl ?_
  rintro ce h' ⟨hv0, rfl, rfl⟩
  refine ⟨rfl, ?_⟩
  cases hv0
  · refine And.intro ?_ (And.intro (fun _ => ?_) (fun h => absurd h (by decide)))
    · simp [AllP, under, gB, wB, inR_iff, IntKind.bits]
    refine (t34 t ht).use [0, 1, 2] ?_ (by (repeat' (first | exact trivial | exact rfl | exact fun _ _ => rfl | exact Or.inl rfl | refine And.intro ?_ ?_))) rfl
    refine And.intro ?_ (And.intro (fun hbb => ?_) (fun hbb => ?_))
    · simp [AllP, under, gB, wB, inR_iff, IntKind.bits]
    · refine And.intro trivial ?_
      refine (t14).use [3, 4] ?_ (by (repeat' (first | exact trivial | exact rfl | exact fun _ _ => rfl | exact Or.inl rfl | refine And.intro ?_ ?_))) rfl
      refine And.intro trivial ?_
      exact ent_tau [0, 1, 2, 3, 4] ⟨by (repeat' (first | exact trivial | exact rfl | exact fun _ _ => rfl | exact Or.inl rfl | refine And.intro ?_ ?_)), by (repeat' (first | exact trivial | exact rfl | exact congrArg (SV.int .i64) (Int.natCast_succ _).symm | refine And.intro ?_ ?_)), rfl⟩
    · have hv : t.Valid := by
        have h2 : (!t.valid) = false := hbb
        simpa [TD.valid] using h2
      have hM := hv.1
      have hS := hv.2.1
      obtain ⟨p, ep⟩ : ∃ p : Int, w.tmod (t.nS : Int) = p := ⟨_, rfl⟩
      have hp0 : 0 ≤ p := ep ▸ Int.tmod_nonneg (t.nS : Int) hw.1
      have hp1 : p < t.nS := ep ▸ Int.tmod_lt_of_pos w (show 0 < (t.nS : Int) by omega)
      obtain ⟨low, el⟩ : ∃ x : Int, a.tmod 61 = x := ⟨_, rfl⟩
      have hl0 : 0 ≤ low := el ▸ Int.tmod_nonneg 61 ha.1
      have hl1 : low < 61 := el ▸ Int.tmod_lt_of_pos a (by decide)
      have hq0 := Int.tmod_nonneg 20 hb.1
      have hq1 := Int.tmod_lt_of_pos b (show (0 : Int) < 20 by decide)
      obtain ⟨high, eh⟩ : ∃ x : Int, (if a.tmod 61 + b.tmod 20 < 60 then a.tmod 61 + b.tmod 20 else 60) = x := ⟨_, rfl⟩
      have hh0 : low ≤ high ∧ high ≤ 60 := by
        rw [← eh, ← el]
        rw [← el] at hl1
        split <;> omega
      refine And.intro ?_ ?_
      · simp only [AllP, under, inR_iff, and_true]
        refine ⟨?_, ?_, ?_, ?_, ?_, ?_, ?_⟩ <;> omega
      refine cutP [] [(4, .int .u8 c), (5, .bool s), (6, .ptr 5 0), (12, .bool false), (13, .int .i64 p), (14, .int .i64 low), (15, .int .i64 high)] (fun _ => [some (.roa 3 t.nM (row3 t.mi t.mlo t.mhi)), some (.roa 2 t.nS (row2 t.slo t.shi)), some (.roa 4 t.nL (row4 t.lp t.lm t.llo t.lhi)), some (.glob 0 [.int .i64 0, .int .i64 1, .int .i64 3, .int .i64 6, .int .i64 9, .int .i64 11, .int .i64 12]), some db, some (.cells [.osl t.bM 0 3 t.nM t.cM, .osl t.bS 1 2 t.nS t.cS, .osl t.bL 2 4 t.nL t.cL])]) ?_ ?_
      · refine ent_tau [0, 1, 2, 3, 4, 5] ⟨by (repeat' (first | exact trivial | exact rfl | exact fun _ _ => rfl | exact Or.inl rfl | refine And.intro ?_ ?_)), ?_, rfl⟩
        (repeat' (first | exact trivial | exact rfl | exact congrArg (SV.int .i64) ep | exact congrArg (SV.int .i64) el | exact congrArg (SV.int .i64) eh | refine And.intro ?_ ?_))
      clear ep el eh hq0 hq1
      have e1 : ((t.nM : Int) - 1).toNat = t.nM - 1 := by omega
      have mk1 := hv.marks (i := 0) (by omega)
      have mk2 := hv.marks (i := t.nM - 1) (by omega)
      simp only [TD.markOk] at mk1 mk2
      have mle : t.mi 0 ≤ t.mi (t.nM - 1) := mi_le hv (Nat.zero_le _) (by omega)
      obtain ⟨bg, eb⟩ : ∃ x : Int, t.mi 0 + c.tmod (t.mi (t.nM - 1) - t.mi 0 + 1) = x := ⟨_, rfl⟩
      have hr0 := Int.tmod_nonneg (t.mi (t.nM - 1) - t.mi 0 + 1) hc.1
      have hr1 := Int.tmod_lt_of_pos c (show 0 < t.mi (t.nM - 1) - t.mi 0 + 1 by omega)
      have eL : t.mi (0 + ((t.nM : Int) - 1).toNat) = t.mi (t.nM - 1) := by rw [e1, Nat.zero_add]
      have mB : t.isMin bg := ⟨by omega, by omega⟩
      have hpl : t.isPl p := ⟨hp0, by omega⟩
      have eB : t.mi 0 + c.tmod (t.mi (0 + ((t.nM : Int) - 1).toNat) - t.mi 0 + 1) = bg := by rw [eL]; exact eb
      refine drawP E_ok [5] pl8_6 (by kernel_rfl) ?_
      refine And.intro ?_ ?_
      · simp only [AllP, under, inR_iff, and_true, Int.toNat_zero, Nat.zero_add, e1]
        (repeat' refine And.intro ?_ ?_) <;> omega
      refine And.intro rfl ?_
      refine And.intro ?_ ?_
      · simp only [AllP, under, inR_iff, and_true, Int.toNat_zero, Nat.zero_add, e1]
        (repeat' refine And.intro ?_ ?_) <;> omega
      have c17 := t17 t p low bg s
      have c15 := t15b t p low high
      by_cases hn : t.all = []
      · have e15 : t.servedT p low high = ⟨[], 10⟩ := by
          unfold TD.servedT
          rw [if_neg (fun h => h hv), if_neg (fun h => h ⟨hpl, ⟨hl0, by omega⟩, by omega, hh0.2⟩), if_pos hn]
        have e17 : t.firstT p low bg s = ⟨0, 10⟩ := by
          unfold TD.firstT
          rw [if_neg (fun h => h hv), if_neg (fun h => h ⟨hpl, ⟨hl0, by omega⟩, mB⟩), if_pos hn]
        rw [e15] at c15
        rw [e17, ← eB] at c17
        refine CallP.frameH c15 [0, 1, 2, 3, 4] (by (repeat' (first | exact trivial | exact rfl | exact fun _ _ => rfl | exact Or.inl rfl | refine And.intro ?_ ?_))) rfl ?_
        rintro ce h' (⟨bL, capL, hbL, hnL, rfl, rfl⟩ | ⟨bL, capL, hbL, hnL, hcl1, hcl2, rfl, rfl⟩)
        · refine ⟨rfl, ?_⟩
          refine And.intro ?_ ?_
          · (repeat' (first | exact trivial | exact fun _ => rfl | exact rfl | refine And.intro ?_ ?_))
          refine (c17).use [0, 1, 2, 3, 4] ?_ (by (repeat' (first | exact trivial | exact rfl | exact fun _ _ => rfl | exact Or.inl rfl | refine And.intro ?_ ?_))) rfl
          refine And.intro ?_ (And.intro (fun h => ?_) (fun h => absurd h (by decide)))
          · (repeat' (first | exact trivial | exact fun _ => rfl | exact rfl | refine And.intro ?_ ?_))
          refine And.intro ?_ (And.intro (fun h => ?_) (fun h => absurd h (by decide)))
          · (repeat' (first | exact trivial | exact fun _ => rfl | exact rfl | refine And.intro ?_ ?_))
          refine (t14).use [3, 4] ?_ (by (repeat' (first | exact trivial | exact rfl | exact fun _ _ => rfl | exact Or.inl rfl | refine And.intro ?_ ?_))) rfl
          refine And.intro ?_ ?_
          · (repeat' (first | exact trivial | exact fun _ => rfl | exact rfl | refine And.intro ?_ ?_))
          exact ent_tau [0, 1, 2, 3, 4] ⟨by (repeat' (first | exact trivial | exact rfl | exact fun _ _ => rfl | exact Or.inl rfl | refine And.intro ?_ ?_)), by (repeat' (first | exact trivial | exact rfl | exact congrArg (SV.int .i64) (Int.natCast_succ _).symm | refine And.intro ?_ ?_)), rfl⟩
        · exact absurd hnL (by decide)
      · obtain ⟨S, eS, hS⟩ : ∃ S, t.servedT p low high = ⟨S, 0⟩ ∧ Sps (goodM t p.toNat low high) (t.mi 0) (t.mi (t.nM - 1) + 1) S := by
          refine ⟨_, by unfold TD.servedT; rw [if_neg (fun h => h hv), if_neg (fun h => h ⟨hpl, ⟨hl0, by omega⟩, by omega, hh0.2⟩), if_neg hn], ?_⟩
          have := servF_sps (t.mi (t.nM - 1) - t.mi 0 + 1).toNat (t.mi 0) [] (Int.le_refl _) (sps_nil (goodM t p.toNat low high) (t.mi 0))
          rwa [show t.mi 0 + (((t.mi (t.nM - 1) - t.mi 0 + 1).toNat : Nat) : Int) = t.mi (t.nM - 1) + 1 by omega] at this
        have e17 : t.firstT p low bg s = firstF (okF t p.toNat low s) (t.mi (t.nM - 1) - bg + 1).toNat bg := by
          unfold TD.firstT
          rw [if_neg (fun h => h hv), if_neg (fun h => h ⟨hpl, ⟨hl0, by omega⟩, mB⟩), if_neg hn]
        obtain ⟨fv, fe, eF, hF⟩ : ∃ fv fe : Int, t.firstT p low bg s = ⟨fv, fe⟩ ∧ ((fe = 0 ∧ bg ≤ fv ∧ fv ≤ t.mi (t.nM - 1) ∧ okF t p.toNat low s fv = true ∧ ∀ x, bg ≤ x → x < fv → okF t p.toNat low s x = false) ∨ (fe = 4 ∧ fv = 0 ∧ ∀ x, bg ≤ x → x ≤ t.mi (t.nM - 1) → okF t p.toNat low s x = false)) := by
          rw [e17]
          rcases firstF_spec (ok := okF t p.toNat low s) (t.mi (t.nM - 1) - bg + 1).toNat bg with ⟨v, e, h1, h2, h3, h4⟩ | ⟨e, h4⟩
          · exact ⟨v, 0, e, .inl ⟨rfl, h1, by omega, h3, h4⟩⟩
          · exact ⟨0, 4, e, .inr ⟨rfl, rfl, fun x h1 h2 => h4 x h1 (by omega)⟩⟩
        rw [eS] at c15
        rw [eF, ← eB] at c17
        refine have main : (∀ (b : Bool) (cap : Nat), (?X : Bool → Nat → Prop) b cap) := ?Y; ?_
        rotate_right
        · refine CallP.frameH c15 [0, 1, 2, 3, 4] (by (repeat' (first | exact trivial | exact rfl | exact fun _ _ => rfl | exact Or.inl rfl | refine And.intro ?_ ?_))) rfl ?_
          rintro ce h' (⟨bL, capL, hbL, hnL, rfl, rfl⟩ | ⟨bL, capL, hbL, hnL, hcl1, hcl2, rfl, rfl⟩)
          · refine ⟨rfl, ?_⟩
            refine And.intro ?_ ?_
            · (repeat' (first | exact trivial | exact fun _ => rfl | exact rfl | refine And.intro ?_ ?_))
            refine (c17).use [0, 1, 2, 3, 4] ?_ (by (repeat' (first | exact trivial | exact rfl | exact fun _ _ => rfl | exact Or.inl rfl | refine And.intro ?_ ?_))) rfl
            refine And.intro ?_ (And.intro (fun h => absurd h (by simp)) (fun h => ?_))
            · (repeat' (first | exact trivial | exact fun _ => rfl | exact rfl | refine And.intro ?_ ?_))
            refine And.intro ?_ (And.intro (fun h => ?_) (fun h => ?_))
            · (repeat' (first | exact True.intro | exact d1 _ | exact d1t _ | exact d2 _ | exact d3 _ _ | exact d3f _ _ | exact fun _ _ => rfl | exact fun _ => rfl | exact rfl | refine And.intro ?_ ?_))
            · exfalso
              rcases hF with ⟨h1, h2, h3, _⟩ | ⟨h1, h2, _⟩
              · rw [eL] at h
                simp [h1] at h
                omega
              · simp [h1, h2] at h
            refine And.intro ?_ ?_
            · (repeat' (first | exact trivial | exact fun _ => rfl | exact rfl | refine And.intro ?_ ?_))
            refine cutP [] [(5, .bool s), (6, .ptr 5 0), (12, .bool false), (13, .int .i64 p), (14, .int .i64 low), (15, .int .i64 high), (16, .int .i64 (t.mi 0)), (17, .int .i64 (t.mi (t.nM - 1))), (18, .int .i64 bg), (19, .osl bL 6 2 S.length capL), (21, .int .i64 fv), (22, .int .i64 fe), (23, .int .i64 0), (145, .osl bL 6 2 S.length capL), (146, .int .i64 S.length), (147, .int .i64 0)] (fun _ => [some (.roa 3 t.nM (row3 t.mi t.mlo t.mhi)), some (.roa 2 t.nS (row2 t.slo t.shi)), some (.roa 4 t.nL (row4 t.lp t.lm t.llo t.lhi)), some (.glob 0 [.int .i64 0, .int .i64 1, .int .i64 3, .int .i64 6, .int .i64 9, .int .i64 11, .int .i64 12]), some db, some (.cells [.osl t.bM 0 3 t.nM t.cM, .osl t.bS 1 2 t.nS t.cS, .osl t.bL 2 4 t.nL t.cL]), some (.roa 2 S.length (prow S))]) ?_ ?_
            · have hS0 : S = [] := hnL
              clear main
              subst hS0
              refine entAliasR (i := 0) (H := [some (.roa 3 t.nM (row3 t.mi t.mlo t.mhi)), some (.roa 2 t.nS (row2 t.slo t.shi)), some (.roa 4 t.nL (row4 t.lp t.lm t.llo t.lhi)), some (.glob 0 [.int .i64 0, .int .i64 1, .int .i64 3, .int .i64 6, .int .i64 9, .int .i64 11, .int .i64 12]), some db, some (.cells [.osl t.bM 0 3 t.nM t.cM, .osl t.bS 1 2 t.nS t.cS, .osl t.bL 2 4 t.nL t.cL])]) ?_ rfl
              exact ent_tau [0, 1, 2, 3, 4, 5] ⟨by (repeat' (first | exact trivial | exact rfl | exact fun _ _ => rfl | exact Or.inl rfl | refine And.intro ?_ ?_)), by (repeat' (first | exact trivial | exact rfl | exact congrArg (SV.int .i64) eL | exact congrArg (SV.int .i64) eB | refine And.intro ?_ ?_)), rfl⟩
            exact main bL capL
          · refine ⟨rfl, ?_⟩
            refine And.intro ?_ ?_
            · (repeat' (first | exact trivial | exact fun _ => rfl | exact rfl | refine And.intro ?_ ?_))
            refine (c17).use [0, 1, 2, 3, 4] ?_ (by (repeat' (first | exact trivial | exact rfl | exact fun _ _ => rfl | exact Or.inl rfl | refine And.intro ?_ ?_))) rfl
            refine And.intro ?_ (And.intro (fun h => absurd h (by simp)) (fun h => ?_))
            · (repeat' (first | exact trivial | exact fun _ => rfl | exact rfl | refine And.intro ?_ ?_))
            refine And.intro ?_ (And.intro (fun h => ?_) (fun h => ?_))
            · (repeat' (first | exact True.intro | exact d1 _ | exact d1t _ | exact d2 _ | exact d3 _ _ | exact d3f _ _ | exact fun _ _ => rfl | exact fun _ => rfl | exact rfl | refine And.intro ?_ ?_))
            · exfalso
              rcases hF with ⟨h1, h2, h3, _⟩ | ⟨h1, h2, _⟩
              · rw [eL] at h
                simp [h1] at h
                omega
              · simp [h1, h2] at h
            refine And.intro ?_ ?_
            · (repeat' (first | exact trivial | exact fun _ => rfl | exact rfl | refine And.intro ?_ ?_))
            refine cutP [] [(5, .bool s), (6, .ptr 5 0), (12, .bool false), (13, .int .i64 p), (14, .int .i64 low), (15, .int .i64 high), (16, .int .i64 (t.mi 0)), (17, .int .i64 (t.mi (t.nM - 1))), (18, .int .i64 bg), (19, .osl bL 6 2 S.length capL), (21, .int .i64 fv), (22, .int .i64 fe), (23, .int .i64 0), (145, .osl bL 6 2 S.length capL), (146, .int .i64 S.length), (147, .int .i64 0)] (fun _ => [some (.roa 3 t.nM (row3 t.mi t.mlo t.mhi)), some (.roa 2 t.nS (row2 t.slo t.shi)), some (.roa 4 t.nL (row4 t.lp t.lm t.llo t.lhi)), some (.glob 0 [.int .i64 0, .int .i64 1, .int .i64 3, .int .i64 6, .int .i64 9, .int .i64 11, .int .i64 12]), some db, some (.cells [.osl t.bM 0 3 t.nM t.cM, .osl t.bS 1 2 t.nS t.cS, .osl t.bL 2 4 t.nL t.cL]), some (.roa 2 S.length (prow S))]) ?_ ?_
            · exact ent_tau [0, 1, 2, 3, 4, 5, 6] ⟨by (repeat' (first | exact trivial | exact rfl | exact fun _ _ => rfl | exact Or.inl rfl | refine And.intro ?_ ?_)), by (repeat' (first | exact trivial | exact rfl | exact congrArg (SV.int .i64) eL | exact congrArg (SV.int .i64) eB | refine And.intro ?_ ?_)), rfl⟩
            exact main bL capL
        have hSl := hS.len (by omega)
        intro b cap
        refine loopP E_ok [5, 6, 12, 13, 14, 15, 16, 17, 18, 19, 21, 22, 23, 145, 146] (fun k : Nat => [(147, .int .i64 k)]) (fun _ H => H) (fun k => k ≤ S.length) (fun k => S.length - k) 0 (Nat.zero_le _) ?_ ?_
        · exact ent_tau [0, 1, 2, 3, 4, 5, 6] ⟨by (repeat' (first | exact trivial | exact rfl | exact fun _ _ => rfl | exact Or.inl rfl | refine And.intro ?_ ?_)), by (repeat' (first | exact trivial | exact rfl | exact congrArg (SV.int .i64) (Int.natCast_succ _).symm | refine And.intro ?_ ?_)), rfl⟩
        · intro k hk
          refine And.intro ?_ (And.intro (fun hc => ?_) (fun hc => ?_))
          · (repeat' (first | exact trivial | exact fun _ => rfl | exact rfl | refine And.intro ?_ ?_))
          · have hk' : k < S.length := by simpa using hc
            have ek : 0 + ((k : Int)).toNat = k := by omega
            have ek1 : 0 + ((k : Int) - 1).toNat = k - 1 := by omega
            have w0 := hS.wf k hk'
            have w2 := hS.wf (k - 1) (by omega)
            have w1 : 0 < k → _ := fun h => hS.apart k h hk'
            refine And.intro ?_ ?_
            · simp only [AllP, under, inR_iff, and_true]
              omega
            refine drawP E_ok [7] pl8_18 (by kernel_rfl) ?_
            refine And.intro ?_ ?_
            · (repeat' (first | exact True.intro | exact d1 _ | exact d1t _ | exact d2 _ | exact d3 _ _ | exact d3f _ _ | exact fun _ _ => rfl | exact fun _ => rfl | exact rfl | refine And.intro ?_ ?_))
              all_goals (intro hg; simp [-List.getD_eq_getElem?_getD, gB, wB, ek1, inR_iff] at hg ⊢; omega)
            refine And.intro rfl ?_
            refine And.intro ?_ (And.intro (fun h => ?_) (fun h => ?_))
            · (repeat' (first | exact True.intro | exact d1 _ | exact d1t _ | exact d2 _ | exact d3 _ _ | exact d3f _ _ | exact fun _ _ => rfl | exact fun _ => rfl | exact rfl | refine And.intro ?_ ?_))
            · exfalso
              simp [-List.getD_eq_getElem?_getD, ek, ek1] at h
              omega
            refine And.intro ?_ ⟨k + 1, hk', by omega, ?_⟩
            · simp [AllP, under, gB, wB, inR_iff, IntKind.bits]
              omega
            · exact ent_tau [0, 1, 2, 3, 4, 5, 6] ⟨by (repeat' (first | exact trivial | exact rfl | exact fun _ _ => rfl | exact Or.inl rfl | refine And.intro ?_ ?_)), by (repeat' (first | exact trivial | exact rfl | exact congrArg (SV.int .i64) (Int.natCast_succ _).symm | refine And.intro ?_ ?_)), rfl⟩
          · refine And.intro ?_ ?_
            · (repeat' (first | exact trivial | exact fun _ => rfl | exact rfl | refine And.intro ?_ ?_))
            refine And.intro ?_ ?_
            · (repeat' (first | exact trivial | exact fun _ => rfl | exact rfl | refine And.intro ?_ ?_))
            refine loopP E_ok [5, 6, 12, 13, 14, 15, 16, 17, 18, 19, 21, 22] (fun g : Int × Nat => [(26, .int .i64 g.1), (23, .int .i64 g.2)]) (fun _ H => H) (fun g => t.mi 0 ≤ g.1 ∧ g.1 ≤ t.mi (t.nM - 1) + 1 ∧ g.2 ≤ S.length ∧ ∀ i, i < g.2 → (S.getD i (0, 0)).2 < g.1) (fun g => (t.mi (t.nM - 1) + 1 - g.1).toNat) (t.mi 0, 0) ⟨Int.le_refl _, by omega, Nat.zero_le _, fun i h => by omega⟩ ?_ ?_
            · exact ent_tau [0, 1, 2, 3, 4, 5, 6] ⟨by (repeat' (first | exact trivial | exact rfl | exact fun _ _ => rfl | exact Or.inl rfl | refine And.intro ?_ ?_)), by (repeat' (first | exact trivial | exact rfl | exact congrArg (SV.int .i64) (Int.natCast_succ _).symm | refine And.intro ?_ ?_)), rfl⟩
            · rintro ⟨m, at2⟩ ⟨hm0, hm1, hat, hbef⟩
              simp only at hm0 hm1 hat hbef
              refine And.intro ?_ (And.intro (fun hcm => ?_) (fun hcm => ?_))
              · (repeat' (first | exact trivial | exact fun _ => rfl | exact rfl | refine And.intro ?_ ?_))
              · have hcm' : m ≤ t.mi (t.nM - 1) := by simpa using hcm
                have mM : t.isMin m := ⟨hm0, hcm'⟩
                obtain ⟨dl, dh, eD, eG, eK⟩ : ∃ dl dh : Int, t.depthT p m = ⟨(dl, dh), 0⟩ ∧ goodM t p.toNat low high m = (decide (low ≤ dl) && decide (dh ≤ high)) ∧ okF t p.toNat low s m = (if s = true then decide (low ≤ dl) else decide (low ≤ dh)) := by
                  refine ⟨_, _, ?_, rfl, rfl⟩
                  unfold TD.depthT
                  rw [if_neg (fun h => h hv), if_neg (fun h => h ⟨hpl, mM⟩), if_neg hn]
                have hle : dl ≤ dh := by
                  have ep : ((p.toNat : Nat) : Int) = p := by omega
                  obtain ⟨lo, hi, hD⟩ := dep_is hv (fun h => hn ((all_nil hv).2 h)) (p := p.toNat) (by omega) mM
                  have e := hD.v
                  rw [ep, eD] at e
                  obtain ⟨x, hx, _⟩ := hD.lo
                  have := hD.bnd x hx
                  simp only [Told.mk.injEq, Prod.mk.injEq] at e
                  omega
                have c25 := t25 t p m
                rw [eD] at c25
                refine And.intro ?_ ?_
                · (repeat' (first | exact trivial | exact fun _ => rfl | exact rfl | refine And.intro ?_ ?_))
                refine (c25).use [0, 1, 2, 3, 4] ?_ (by (repeat' (first | exact trivial | exact rfl | exact fun _ _ => rfl | exact Or.inl rfl | refine And.intro ?_ ?_))) rfl
                refine And.intro ?_ (And.intro (fun h => absurd h (by simp)) (fun h => ?_))
                · (repeat' (first | exact trivial | exact fun _ => rfl | exact rfl | refine And.intro ?_ ?_))
                refine And.intro ?_ ?_
                · (repeat' (first | exact trivial | exact fun _ => rfl | exact rfl | refine And.intro ?_ ?_))
                refine loopP E_ok [5, 6, 12, 13, 14, 15, 16, 17, 18, 19, 21, 22, 26, 27] (fun k : Nat => [(23, .int .i64 k)]) (fun _ H => H) (fun k => k ≤ S.length ∧ ∀ i, i < k → (S.getD i (0, 0)).2 < m) (fun k => S.length - k) at2 ⟨hat, hbef⟩ ?_ ?_
                · exact ent_tau [0, 1, 2, 3, 4, 5, 6, 7] ⟨by (repeat' (first | exact trivial | exact rfl | exact fun _ _ => rfl | exact Or.inl rfl | refine And.intro ?_ ?_)), by (repeat' (first | exact trivial | exact rfl | exact congrArg (SV.int .i64) (Int.natCast_succ _).symm | refine And.intro ?_ ?_)), rfl⟩
                · rintro k ⟨hk, hkb⟩
                  have ek : 0 + ((k : Int)).toNat = k := by omega
                  refine And.intro ?_ (And.intro (fun h => ?_) (fun h => ?_))
                  · (repeat' (first | exact True.intro | exact d1 _ | exact d1t _ | exact d2 _ | exact d3 _ _ | exact d3f _ _ | exact fun _ _ => rfl | exact fun _ => rfl | exact rfl | refine And.intro ?_ ?_))
                    all_goals (intro hg; simp [-List.getD_eq_getElem?_getD, gB, wB, ek, inR_iff] at hg ⊢; try omega)
                  · have h2 : k < S.length ∧ (S.getD k (0, 0)).2 < m := by simpa [-List.getD_eq_getElem?_getD, ek] using h
                    refine And.intro ?_ ⟨k + 1, ⟨h2.1, fun i hi => ?_⟩, by omega, ?_⟩
                    · simp [AllP, under, gB, wB, inR_iff, IntKind.bits]
                      omega
                    · rcases Nat.lt_succ_iff_lt_or_eq.1 hi with h3 | rfl
                      · exact hkb i h3
                      · exact h2.2
                    · exact ent_tau [0, 1, 2, 3, 4, 5, 6, 7] ⟨by (repeat' (first | exact trivial | exact rfl | exact fun _ _ => rfl | exact Or.inl rfl | refine And.intro ?_ ?_)), by (repeat' (first | exact trivial | exact rfl | exact congrArg (SV.int .i64) (Int.natCast_succ _).symm | refine And.intro ?_ ?_)), rfl⟩
                  · have h2 : k < S.length → ¬ (S.getD k (0, 0)).2 < m := by
                      simp [-List.getD_eq_getElem?_getD, ek] at h
                      intro h3 h4
                      have := h h3
                      omega
                    have hT := told_iff hS hm0 (by omega) hk hkb h2
                    refine And.intro ?_ ?_
                    · (repeat' (first | exact trivial | exact fun _ => rfl | exact rfl | refine And.intro ?_ ?_))
                    refine And.intro ?_ (And.intro (fun h => ?_) (fun h => ?_))
                    · (repeat' (first | exact True.intro | exact d1 _ | exact d1t _ | exact d2 _ | exact d3 _ _ | exact d3f _ _ | exact fun _ _ => rfl | exact fun _ => rfl | exact rfl | refine And.intro ?_ ?_))
                      all_goals (intro hg; simp [-List.getD_eq_getElem?_getD, gB, wB, ek, inR_iff] at hg ⊢; try omega)
                    · rw [ek] at h
                      exact (cond1 hT eG h).elim
                    refine And.intro ?_ (And.intro (fun h => ?_) (fun h => ?_))
                    · (repeat' (first | exact True.intro | exact d1 _ | exact d1t _ | exact d2 _ | exact d3 _ _ | exact d3f _ _ | exact fun _ _ => rfl | exact fun _ => rfl | exact rfl | refine And.intro ?_ ?_))
                    · exact (cond2 hle hcm' eK hF h).elim
                    refine And.intro ?_ ⟨(m + 1, k), ⟨by simp only; omega, by simp only; omega, hk, fun i hi => by have := hkb i hi; simp only; omega⟩, by simp only; omega, ?_⟩
                    · simp [AllP, under, gB, wB, inR_iff, IntKind.bits]
                      omega
                    · exact ent_tau [0, 1, 2, 3, 4, 5, 6] ⟨by (repeat' (first | exact trivial | exact rfl | exact fun _ _ => rfl | exact Or.inl rfl | refine And.intro ?_ ?_)), by (repeat' (first | exact trivial | exact rfl | exact congrArg (SV.int .i64) (Int.natCast_succ _).symm | refine And.intro ?_ ?_)), rfl⟩
              · have hcm' : ¬ m ≤ t.mi (t.nM - 1) := by simpa using hcm
                have c17b := t17 t p low (t.mi (t.nM - 1) + 1) s
                rw [show t.firstT p low (t.mi (t.nM - 1) + 1) s = ⟨0, 2⟩ by
                  unfold TD.firstT
                  rw [if_neg (fun h => h hv), if_pos (fun h => by have := h.2.2.2; omega)]] at c17b
                have c15b := t15b t p (-1) high
                rw [show t.servedT p (-1) high = ⟨[], 2⟩ by
                  unfold TD.servedT
                  rw [if_neg (fun h => h hv), if_pos (fun h => by have := h.2.1.1; omega)]] at c15b
                have c15c := t15b t p low 61
                rw [show t.servedT p low 61 = ⟨[], 2⟩ by
                  unfold TD.servedT
                  rw [if_neg (fun h => h hv), if_pos (fun h => by have := h.2.2.2; omega)]] at c15c
                refine And.intro ?_ ?_
                · (repeat' (first | exact trivial | exact fun _ => rfl | exact rfl | refine And.intro ?_ ?_))
                refine And.intro ?_ ?_
                · simp [AllP, under, gB, wB, inR_iff, IntKind.bits]
                  omega
                refine (c17b).use [0, 1, 2, 3, 4] ?_ (by (repeat' (first | exact trivial | exact rfl | exact fun _ _ => rfl | exact Or.inl rfl | refine And.intro ?_ ?_))) rfl
                refine And.intro ?_ ?_
                · (repeat' (first | exact trivial | exact fun _ => rfl | exact rfl | refine And.intro ?_ ?_))
                refine CallP.frameH c15b [0, 1, 2, 3, 4] (by (repeat' (first | exact trivial | exact rfl | exact fun _ _ => rfl | exact Or.inl rfl | refine And.intro ?_ ?_))) rfl ?_
                rintro ce h' (⟨bL, capL, hbL, hnL, rfl, rfl⟩ | ⟨bL, capL, hbL, hnL, hcl1, hcl2, rfl, rfl⟩)
                rotate_left
                · exact absurd hnL (by decide)
                refine ⟨rfl, ?_⟩
                refine And.intro ?_ ?_
                · (repeat' (first | exact trivial | exact fun _ => rfl | exact rfl | refine And.intro ?_ ?_))
                refine CallP.frameH c15c [0, 1, 2, 3, 4] (by (repeat' (first | exact trivial | exact rfl | exact fun _ _ => rfl | exact Or.inl rfl | refine And.intro ?_ ?_))) rfl ?_
                rintro ce h' (⟨bL', capL', hbL', hnL', rfl, rfl⟩ | ⟨bL', capL', hbL', hnL', hcl1', hcl2', rfl, rfl⟩)
                rotate_left
                · exact absurd hnL' (by decide)
                refine ⟨rfl, ?_⟩
                refine And.intro ?_ (And.intro (fun h => ?_) (fun h => absurd h (by decide)))
                · (repeat' (first | exact trivial | exact fun _ => rfl | exact rfl | refine And.intro ?_ ?_))
                refine (t14).use [3, 4] ?_ (by (repeat' (first | exact trivial | exact rfl | exact fun _ _ => rfl | exact Or.inl rfl | refine And.intro ?_ ?_))) rfl
                refine And.intro ?_ ?_
                · (repeat' (first | exact trivial | exact fun _ => rfl | exact rfl | refine And.intro ?_ ?_))
                exact ent_tau [0, 1, 2, 3, 4] ⟨by (repeat' (first | exact trivial | exact rfl | exact fun _ _ => rfl | exact Or.inl rfl | refine And.intro ?_ ?_)), by (repeat' (first | exact trivial | exact rfl | exact congrArg (SV.int .i64) (Int.natCast_succ _).symm | refine And.intro ?_ ?_)), rfl⟩
  · refine And.intro ?_ (And.intro (fun h => absurd h (by decide)) (fun _ => ?_))
    · simp [AllP, under, gB, wB, inR_iff, IntKind.bits]
    refine And.intro ?_ (And.intro (fun hbb => ?_) (fun hbb => absurd hbb (by decide)))
    · (repeat' (first | exact trivial | exact fun _ => rfl | exact rfl | refine And.intro ?_ ?_))
      all_goals exact fun h => absurd h (by decide)
    · refine And.intro trivial ?_
      refine (t14).use [3, 4] ?_ (by (repeat' (first | exact trivial | exact rfl | exact fun _ _ => rfl | exact Or.inl rfl | refine And.intro ?_ ?_))) rfl
      refine And.intro trivial ?_
      exact ent_tau [0, 1, 2, 3, 4] ⟨by (repeat' (first | exact trivial | exact rfl | exact fun _ _ => rfl | exact Or.inl rfl | refine And.intro ?_ ?_)), by (repeat' (first | exact trivial | exact rfl | exact congrArg (SV.int .i64) (Int.natCast_succ _).symm | refine And.intro ?_ ?_)), rfl⟩
end Go.Proofs.YtipbempkngfdbaaDoor
