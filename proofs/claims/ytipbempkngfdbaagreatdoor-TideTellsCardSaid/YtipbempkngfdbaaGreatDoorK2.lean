/-
  Parts: SyC, Sy0.
-/
import Derived.MapKept
import Derived.Maps.RangeRun
import Derived.OrdersIn
import Derived.RangeFuncIn
import Derived.Laws.World
import Derived.Laws.Cells
set_option linter.unusedVariables false
/-
  SyC: maps whose whole content is known, keys and elements numbers; and a range over one of them. No program is named.
-/
namespace Go.Sy

def mesF : List (Int × Int) → Nat → List MapEntry
  | [], _ => []
  | p :: l, i => { key := .int .i64 p.1, val := .int .i64 p.2, born := i } :: mesF l (i + 1)
/-- A map that holds just these, in the order in which they came. -/
def mapObj (m : List (Int × Int)) : Obj := .map (mesF m 0).toArray m.length

theorem mesF_length : ∀ (m : List (Int × Int)) (i : Nat), (mesF m i).length = m.length
  | [], _ => rfl
  | _ :: l, i => by simp [mesF, mesF_length l]
theorem mesF_get : ∀ (m : List (Int × Int)) (i j : Nat), (mesF m i)[j]? = (m[j]?).map fun p => ({ key := .int .i64 p.1, val := .int .i64 p.2, born := i + j } : MapEntry)
  | [], _, _ => by simp [mesF]
  | p :: l, i, 0 => by simp [mesF]
  | p :: l, i, j + 1 => by simp [mesF, mesF_get l, Nat.add_assoc, Nat.add_comm 1]
theorem mesF_app : ∀ (m : List (Int × Int)) (p : Int × Int) (i : Nat), mesF (m ++ [p]) i = mesF m i ++ [{ key := .int .i64 p.1, val := .int .i64 p.2, born := i + m.length }]
  | [], p, i => by simp [mesF]
  | q :: l, p, i => by simp [mesF, mesF_app l, Nat.add_assoc, Nat.add_comm 1]
theorem mesF_set (m : List (Int × Int)) (i j : Nat) (p : Int × Int) : mesF (m.set j p) i = (mesF m i).set j { key := .int .i64 p.1, val := .int .i64 p.2, born := i + j } := by
  apply List.ext_getElem?
  intro k
  rw [mesF_get, List.getElem?_set, List.getElem?_set, mesF_length, mesF_get]
  by_cases hjk : j = k
  · subst hjk
    by_cases hl : j < m.length <;> simp [hl]
  · simp [hjk]

/-- Where a key stands, and its element. -/
def aget : List (Int × Int) → Int → Option (Nat × Int)
  | [], _ => none
  | (a, b) :: l, k => if a = k then some (0, b) else match aget l k with
    | some (j, v) => some (j + 1, v)
    | none => none
def aval (m : List (Int × Int)) (k : Int) : Int := match aget m k with | some (_, v) => v | none => 0
def ahas (m : List (Int × Int)) (k : Int) : Bool := match aget m k with | some _ => true | none => false
def apos (m : List (Int × Int)) (k : Int) : Nat := match aget m k with | some (j, _) => j | none => m.length
def aset (m : List (Int × Int)) (k v : Int) : List (Int × Int) :=
  match aget m k with
  | some (j, _) => m.set j (k, v)
  | none => m ++ [(k, v)]
def aent (m : List (Int × Int)) (k : Int) : List (Int × Int) := match aget m k with | some _ => m | none => m ++ [(k, 0)]
def aput (m : List (Int × Int)) (j : Nat) (v : Int) : List (Int × Int) := match m[j]? with | some (k, _) => m.set j (k, v) | none => m
def CMapTy (P : Program) (mt : Nat) : Prop :=
  ∃ key elem, P.underlying mt = some (.map key elem) ∧ P.underlying key = some (.int .i64) ∧ ∀ w, (zeroValue elem).run P w = .ok (.int .i64 0) w

theorem aget_spec {k : Int} : ∀ {m : List (Int × Int)}, (aget m k = none ∧ ∀ p ∈ m, p.1 ≠ k) ∨ ∃ j v, aget m k = some (j, v) ∧ m[j]? = some (k, v)
  | [] => .inl ⟨rfl, by simp⟩
  | (a, b) :: l => by
    by_cases h : a = k
    · subst h
      exact .inr ⟨0, b, by simp [aget], rfl⟩
    · rcases aget_spec (k := k) (m := l) with ⟨h1, h2⟩ | ⟨j, v, h1, h2⟩
      · refine .inl ⟨by simp [aget, h, h1], fun p hp => ?_⟩
        rcases List.mem_cons.1 hp with rfl | hp
        · exact h
        · exact h2 p hp
      · exact .inr ⟨j + 1, v, by simp [aget, h, h1], by simpa using h2⟩
theorem findNow_cm {k : Int} : ∀ {m : List (Int × Int)} {b i : Nat}, Instr.findNow (.int .i64) (.int .i64 k) (mesF m b) i = some ((aget m k).map fun q => (i + q.1, Value.int .i64 q.2))
  | [], _, _ => rfl
  | (a, c) :: m, b, i => by
    have ih := findNow_cm (k := k) (m := m) (b := b + 1) (i := i + 1)
    simp only [mesF, Instr.findNow, Instr.sameNow, if_true]
    by_cases hk : a = k
    · subst hk
      simp [aget]
    · have hk' : (k == a) = false := by simpa using fun e => hk e.symm
      simp only [hk', ih, aget, if_neg hk]
      cases aget m k with
      | none => rfl
      | some q => simp; omega

section
variable {P : Program} {mt : Nat}
theorem run_findKey_cm {key : Nat} (hd : P.underlying key = some (.int .i64)) (m : List (Int × Int)) (k : Int) (w : World) :
    (Instr.findKey key (.int .i64 k) (mesF m 0).toArray.toList).run P w = .ok ((aget m k).map fun q => (q.1, Value.int .i64 q.2)) w := by
  have hu : (underlying key).run P w = .ok (.int .i64) w := by simp [Go.underlying, hd]
  unfold Instr.findKey
  rw [Sem.run_bind, hu]
  simp only [Result.andThen_ok, findNow_cm, Sem.run_pure]
  cases aget m k <;> simp
theorem run_lookup_cm (ht : CMapTy P mt) {r : Nat} {w : World} {m : List (Int × Int)} (hb : w.heap[r]? = some (mapObj m)) (k : Int) (cok : Bool) :
    (Instr.lookup mt (.map (some r)) (.int .i64 k) cok).run P w = .ok (if cok then .tuple #[.int .i64 (aval m k), .bool (ahas m k)] else .int .i64 (aval m k)) w := by
  obtain ⟨key, elem, h1, h2, h3⟩ := ht
  have hu : (underlying mt).run P w = .ok (.map key elem) w := by simp [Go.underlying, h1]
  have hg := MapKept.run_getObj_map (P := P) hb
  have hc := fun b => MapKept.run_checkKey (P := P) (w := w) (k := .int .i64 k) h2 rfl b 9999
  have hf := run_findKey_cm (w := w) h2 m k
  unfold aval ahas
  cases hq : aget m k with
  | none =>
    rw [hq] at hf
    simp only [Option.map_none] at hf
    simp only [Instr.lookup, Sem.run_bind, hu, Result.andThen_ok, hg, Sem.run_pure, hc, hf, h3 w]
  | some q =>
    rw [hq] at hf
    simp only [Option.map_some] at hf
    simp only [Instr.lookup, Sem.run_bind, hu, Result.andThen_ok, hg, Sem.run_pure, hc, hf]
theorem mes_modify {m : List (Int × Int)} {j : Nat} {k u : Int} (hj : m[j]? = some (k, u)) (p : Int × Int) (f : MapEntry → MapEntry) (hf : f { key := .int .i64 k, val := .int .i64 u, born := j } = { key := .int .i64 p.1, val := .int .i64 p.2, born := j }) :
    (mesF m 0).toArray.modify j f = (mesF (m.set j p) 0).toArray := by
  apply Array.ext'
  apply List.ext_getElem?
  intro i
  rw [Array.getElem?_toList, Array.getElem?_modify, mesF_set, List.getElem?_set, mesF_length]
  have hl : j < m.length := (List.getElem?_eq_some_iff.1 hj).1
  by_cases hij : j = i
  · subst hij
    have hv : m[j] = (k, u) := (List.getElem?_eq_some_iff.1 hj).2
    simp [mesF_get, hl, hv, hf]
  · simp [hij]
theorem mes_modify_same {m : List (Int × Int)} {j : Nat} {k u : Int} (hj : m[j]? = some (k, u)) (f : MapEntry → MapEntry) (hf : f { key := .int .i64 k, val := .int .i64 u, born := j } = { key := .int .i64 k, val := .int .i64 u, born := j }) :
    (mesF m 0).toArray.modify j f = (mesF m 0).toArray := by
  rw [mes_modify hj (k, u) f hf]
  congr 1
  have hl : j < m.length := (List.getElem?_eq_some_iff.1 hj).1
  have : m[j] = (k, u) := (List.getElem?_eq_some_iff.1 hj).2
  rw [← this, List.set_getElem_self]
theorem mes_at {m : List (Int × Int)} {j : Nat} {k u : Int} (hj : m[j]? = some (k, u)) : (mesF m 0).toArray[j]? = some { key := .int .i64 k, val := .int .i64 u, born := j } := by
  simp [mesF_get, hj]
theorem run_mapUpdate_cm (ht : CMapTy P mt) {r : Nat} {w : World} {m : List (Int × Int)} (hb : w.heap[r]? = some (mapObj m)) (k v : Int) :
    (Instr.mapUpdate mt (.map (some r)) (.int .i64 k) (.int .i64 v)).run P w = .ok () { w with heap := w.heap.setIfInBounds r (mapObj (aset m k v)) } := by
  obtain ⟨key, elem, h1, h2, h3⟩ := ht
  have hu : (underlying mt).run P w = .ok (.map key elem) w := by simp [Go.underlying, h1]
  have hg := MapKept.run_getObj_map (P := P) hb
  have hc := fun b => MapKept.run_checkKey (P := P) (w := w) (k := .int .i64 k) h2 rfl b 9999
  have hf := run_findKey_cm (w := w) h2 m k
  have hset := fun o => MapKept.run_setObj_map (P := P) (w := w) o hb
  have hstay : (Instr.keyThatStays (.int .i64 k) (.int .i64 k)).run P w = .ok (.int .i64 k) w := MapKept.run_keyThatStays (d := .int .i64) rfl
  rcases aget_spec (k := k) (m := m) with ⟨hq, hn⟩ | ⟨j, u, hq, hj⟩
  · rw [hq] at hf
    simp only [Option.map_none] at hf
    simp only [Instr.mapUpdate, Sem.run_bind, hu, Result.andThen_ok, hg, hc, hf, hset, aset, hq]
    simp [mapObj, mesF_app]
  · rw [hq] at hf
    simp only [Option.map_some] at hf
    have hkey : (((mesF m 0).toArray[j]?).map (·.key)).getD (.int .i64 k) = .int .i64 k := by rw [mes_at hj]; rfl
    simp only [Instr.mapUpdate, Sem.run_bind, hu, Result.andThen_ok, hg, hc, hf, hkey, hstay, hset, aset, hq]
    rw [mes_modify hj (k, v) _ rfl]
    simp [mapObj]
theorem run_mapEntry_cm (ht : CMapTy P mt) {r : Nat} {w : World} {m : List (Int × Int)} (hb : w.heap[r]? = some (mapObj m)) (k : Int) :
    (Instr.mapEntry mt (.map (some r)) (.int .i64 k)).run P w = .ok (.tuple #[.int .i64 (aval m k), .int .i64 (apos m k)]) { w with heap := w.heap.setIfInBounds r (mapObj (aent m k)) } := by
  obtain ⟨key, elem, h1, h2, h3⟩ := ht
  have hu : (underlying mt).run P w = .ok (.map key elem) w := by simp [Go.underlying, h1]
  have hg := MapKept.run_getObj_map (P := P) hb
  have hc := fun b => MapKept.run_checkKey (P := P) (w := w) (k := .int .i64 k) h2 rfl b 9999
  have hf := run_findKey_cm (w := w) h2 m k
  have hset := fun o => MapKept.run_setObj_map (P := P) (w := w) o hb
  have hstay : (Instr.keyThatStays (.int .i64 k) (.int .i64 k)).run P w = .ok (.int .i64 k) w := MapKept.run_keyThatStays (d := .int .i64) rfl
  rcases aget_spec (k := k) (m := m) with ⟨hq, hn⟩ | ⟨j, u, hq, hj⟩
  · rw [hq] at hf
    simp only [Option.map_none] at hf
    simp only [Instr.mapEntry, Sem.run_bind, hu, Result.andThen_ok, hg, hc, hf, hset, h3 w, aval, apos, aent, hq, Sem.run_pure, goInt]
    simp [mapObj, mesF_app]
  · rw [hq] at hf
    simp only [Option.map_some] at hf
    have hkey : (((mesF m 0).toArray[j]?).map (·.key)).getD (.int .i64 k) = .int .i64 k := by rw [mes_at hj]; rfl
    have hborn' : (((mesF m 0).toArray[j]?).map fun x => (x.born : Int)).getD 0 = j := by rw [mes_at hj]; rfl
    simp only [Instr.mapEntry, Sem.run_bind, hu, Result.andThen_ok, hg, hc, hf, hkey, hstay, hset, aval, apos, aent, hq, Sem.run_pure, goInt]
    rw [mes_modify_same hj _ rfl]
    simp only [List.getElem?_toArray] at hborn'
    simp [mapObj, hborn']
theorem run_entryStore_cm {r : Nat} {w : World} {m : List (Int × Int)} (hb : w.heap[r]? = some (mapObj m)) (j : Nat) (hj : j < m.length) (v : Int) :
    (Instr.entryStore mt (.map (some r)) (.int .i64 j) (.int .i64 v)).run P w = .ok () { w with heap := w.heap.setIfInBounds r (mapObj (aput m j v)) } := by
  have hg := MapKept.run_getObj_map (P := P) hb
  have hset := fun o => MapKept.run_setObj_map (P := P) (w := w) o hb
  obtain ⟨k, u, hm⟩ : ∃ k u, m[j]? = some (k, u) := ⟨m[j].1, m[j].2, by rw [List.getElem?_eq_getElem hj]⟩
  have hfind : (mesF m 0).toArray.findIdx? (fun e => (e.born : Int) == (j : Int)) = some j := by
    rw [List.findIdx?_toArray, List.findIdx?_eq_some_iff_getElem]
    refine ⟨by rw [mesF_length]; exact hj, ?_, ?_⟩
    · have := mesF_get m 0 j
      rw [List.getElem?_eq_getElem (by rw [mesF_length]; exact hj), hm] at this
      simp only [Option.map_some, Option.some.injEq] at this
      rw [this]
      simp
    · intro i hi
      have hil : i < m.length := by omega
      have := mesF_get m 0 i
      rw [List.getElem?_eq_getElem (by rw [mesF_length]; exact hil), List.getElem?_eq_getElem hil] at this
      simp only [Option.map_some, Option.some.injEq] at this
      rw [this]
      simp
      omega
  simp only [Instr.entryStore, Sem.run_bind, hg, Result.andThen_ok, asInt, asIntOf, Sem.run_pure, hfind, hset]
  rw [mes_modify hm (k, v) _ rfl]
  simp [mapObj, aput, hm]
end

/-! ### A range over a map -/
def pv (p : Int × Int) : Value × Value := (.int .i64 p.1, .int .i64 p.2)
/-- An iterator in block a, over a map in a block of F: what is left, and what came last. -/
def IterAt (left : List (Int × Int)) (cur : Option (Int × Int)) (a : Nat) (F : Nat → Prop) (w : World) : Prop :=
  F a ∧ ∃ since seen st bm es clock, w.heap[a]? = some (.mapIter (some bm) since seen st) ∧ bm ≠ a ∧ F bm ∧ w.heap[bm]? = some (.map es clock) ∧ (∀ x ∈ es.toList, x.born < since) ∧ since ≤ st ∧ (es.toList.map (·.born)).Nodup ∧
    (leftOf es seen).toList.map (fun e => (e.key, e.val)) = left.map pv ∧ (∀ k v, cur = some (k, v) → st = clock ∧ ∃ e ∈ es.toList, ∃ s', seen = Array.push s' e.born ∧ e.key = .int .i64 k ∧ e.val = .int .i64 v) ∧ since ≤ clock
theorem IterAt.near {left : List (Int × Int)} {cur : Option (Int × Int)} {a : Nat} {F : Nat → Prop} {w w' : World} (h : IterAt left cur a F w) (hw : ∀ b, F b → w'.heap[b]? = w.heap[b]?) : IterAt left cur a F w' := by
  obtain ⟨h1, since, seen, st, bm, es, clock, h2, h3, h4, h5, h6⟩ := h
  exact ⟨h1, since, seen, st, bm, es, clock, by rw [hw _ h1]; exact h2, h3, h4, by rw [hw _ h4]; exact h5, h6⟩

theorem born_mesF : ∀ (m : List (Int × Int)) (i : Nat), (mesF m i).map (·.born) = List.range' i m.length
  | [], _ => rfl
  | _ :: l, i => by simp [mesF, born_mesF l, List.range'_succ]
theorem kv_mesF : ∀ (m : List (Int × Int)) (i : Nat), (mesF m i).map (fun e => (e.key, e.val)) = m.map pv
  | [], _ => rfl
  | _ :: l, i => by simp [mesF, kv_mesF l, pv]
theorem IterAt.begin {m : List (Int × Int)} {a bm : Nat} {F : Nat → Prop} {w : World} (ha : F a) (hb : F bm) (hne : bm ≠ a) (h1 : w.heap[a]? = some (.mapIter (some bm) m.length #[] m.length)) (h2 : w.heap[bm]? = some (mapObj m)) : IterAt m none a F w := by
  refine ⟨ha, m.length, #[], m.length, bm, (mesF m 0).toArray, m.length, h1, hne, hb, h2, fun x hx => ?_, Nat.le_refl _, ?_, ?_, fun k v e => (by cases e), Nat.le_refl _⟩
  · have : x.born ∈ (mesF m 0).map (·.born) := List.mem_map.2 ⟨x, hx, rfl⟩
    rw [born_mesF] at this
    simp at this
    exact this
  · show ((mesF m 0).map (·.born)).Nodup
    rw [born_mesF]
    exact List.nodup_range'
  · have : leftOf (mesF m 0).toArray #[] = (mesF m 0).toArray := by
      unfold leftOf
      rw [Array.filter_eq_self]
      intro x _
      simp
    rw [this]
    exact kv_mesF m 0

theorem filter_out {L1 L2 : List MapEntry} {e : MapEntry} (h : ((L1 ++ e :: L2).map (·.born)).Nodup) : (L1 ++ e :: L2).filter (fun x => !(x.born == e.born)) = L1 ++ L2 := by
  rw [List.map_append, List.map_cons, List.nodup_append] at h
  obtain ⟨_, h2, h3⟩ := h
  rw [List.nodup_cons] at h2
  rw [List.filter_append, List.filter_cons]
  simp only [beq_self_eq_true, Bool.not_true, Bool.false_eq_true, if_false]
  congr 1
  · rw [List.filter_eq_self]
    intro x hx
    have := h3 x.born (List.mem_map.2 ⟨x, hx, rfl⟩) e.born (List.mem_cons_self ..)
    simpa using this
  · rw [List.filter_eq_self]
    intro x hx
    have : x.born ≠ e.born := fun he => h2.1 (he ▸ List.mem_map.2 ⟨x, hx, rfl⟩)
    simpa using this
theorem leftOf_push (es : Array MapEntry) (seen : Array Nat) (b : Nat) : (leftOf es (seen.push b)).toList = (leftOf es seen).toList.filter (fun x => !(x.born == b)) := by
  unfold leftOf
  rw [Array.toList_filter, Array.toList_filter, List.filter_filter]
  congr 1
  funext x
  simp only [Array.contains_push]
  cases seen.contains x.born <;> simp

section
variable {P : Program}
theorem run_next_it {left : List (Int × Int)} {cur : Option (Int × Int)} {a : Nat} {F : Nat → Prop} {w : World} (h : IterAt left cur a F w) (ty : TypeId) :
    (left = [] ∧ (Instr.next (.pointer (some ⟨a, 0, none⟩)) false ty).run P w = .ok (.tuple #[.bool false]) w) ∨
    ∃ r1 p r2 w', left = r1 ++ p :: r2 ∧ (Instr.next (.pointer (some ⟨a, 0, none⟩)) false ty).run P w = .ok (.tuple #[.bool true, .int .i64 p.1, .int .i64 p.2]) w' ∧
      w'.heap.size = w.heap.size ∧ (∀ b, b ≠ a → w'.heap[b]? = w.heap[b]?) ∧ (w'.os = w.os ∧ w'.output = w.output) ∧ IterAt (r1 ++ r2) (some p) a F w' := by
  obtain ⟨h1, since, seen, st, bm, es, clock, h2, h3, h4, h5, h6, h7, h8, h9, _, h11⟩ := h
  rcases run_next_at (P := P) w ty a bm since st seen es clock h2 h5 h6 h7 with ⟨q1, q2⟩ | ⟨e, he, w1, hw1, q2⟩
  · refine .inl ⟨?_, q2⟩
    have : (leftOf es seen).toList = [] := by
      rw [Array.toList_eq_nil_iff]
      exact Array.eq_empty_of_size_eq_zero q1
    rw [this] at h9
    simpa using h9.symm
  · obtain ⟨L1, L2, hL⟩ := List.append_of_mem he
    have h9' := h9
    rw [hL, List.map_append, List.map_cons] at h9'
    obtain ⟨r1, rr, hl, e1, e2⟩ := List.map_eq_append_iff.1 h9'.symm
    obtain ⟨p, r2, hrr, e3, e4⟩ := List.map_eq_cons_iff.1 e2
    subst hl hrr
    simp only [pv, Prod.mk.injEq] at e3
    have hheap : w1.heap = w.heap := by rcases hw1 with rfl | rfl <;> rfl
    have hlt : a < w.heap.size := (Array.getElem?_eq_some_iff.1 h2).1
    have hnd : ((leftOf es seen).toList.map (·.born)).Nodup := by
      have : ((leftOf es seen).toList).Sublist es.toList := by
        unfold leftOf
        rw [Array.toList_filter]
        exact List.filter_sublist
      exact (this.map _).nodup h8
    have hmem : e ∈ es.toList := (mem_left he).1
    refine .inr ⟨r1, p, r2, Go.ChangeMaps.setBlock w1 a (.mapIter (some bm) since (seen.push e.born) clock), rfl, ?_, by simp [Go.ChangeMaps.setBlock, hheap], fun b hb => ?_, by rcases hw1 with rfl | rfl <;> exact ⟨rfl, rfl⟩, h1, since, seen.push e.born, clock, bm, es, clock, ?_, h3, h4, ?_, h6, h11, h8, ?_, ?_, h11⟩
    · rw [q2, e3.1, e3.2]
    · simp only [Go.ChangeMaps.setBlock, hheap]
      exact Array.getElem?_setIfInBounds_ne (fun e => hb e.symm)
    · simp [Go.ChangeMaps.setBlock, hheap, hlt]
    · simp only [Go.ChangeMaps.setBlock, hheap]
      rw [Array.getElem?_setIfInBounds_ne (fun e => h3 e.symm)]
      exact h5
    · rw [leftOf_push, hL, filter_out (by rw [← hL]; exact hnd), List.map_append, List.map_append, e1, e4]
    · intro k v hkv
      cases hkv
      exact ⟨rfl, e, hmem, seen, rfl, e3.1.symm, e3.2.symm⟩
theorem run_entry_it {left : List (Int × Int)} {k v : Int} {a : Nat} {F : Nat → Prop} {w : World} (h : IterAt left (some (k, v)) a F w) :
    (Instr.entry (.pointer (some ⟨a, 0, none⟩))).run P w = .ok (.tuple #[.int .i64 k, .int .i64 v]) w := by
  obtain ⟨h1, since, seen, st, bm, es, clock, h2, h3, h4, h5, h6, h7, h8, h9, h10, _⟩ := h
  obtain ⟨rfl, e, he, s', rfl, hk, hv⟩ := h10 k v rfl
  rw [← hk, ← hv]
  exact run_entry_at w a bm since s' es st e h2 h5 he h8
end
end Go.Sy
/-
  Sy0: symbolic values and symbolic blocks, what they denote, and what it means that a world realises a symbolic heap. No program is named.
-/
namespace Go.Sy

/-! ### Lists of numbers, told by one number -/
def encL : List Nat → Nat
  | [] => 0
  | x :: xs => 2 ^ x * (2 * encL xs + 1)
def strip : Nat → Nat → Nat × Nat
  | 0, c => (0, c / 2)
  | f + 1, c => if c % 2 = 1 then (0, c / 2) else ((strip f (c / 2)).1 + 1, (strip f (c / 2)).2)
theorem strip_eq : ∀ (f x y : Nat), x ≤ f → strip f (2 ^ x * (2 * y + 1)) = (x, y)
  | 0, 0, y, _ => by simp only [strip, Nat.pow_zero, Nat.one_mul]; congr 1; omega
  | f + 1, 0, y, _ => by
    simp only [strip, Nat.pow_zero, Nat.one_mul]
    rw [if_pos (by omega)]
    congr 1; omega
  | f + 1, x + 1, y, h => by
    have e : 2 ^ (x + 1) * (2 * y + 1) = 2 * (2 ^ x * (2 * y + 1)) := by rw [Nat.pow_succ, Nat.mul_comm (2 ^ x) 2, Nat.mul_assoc]
    rw [e, strip, if_neg (by omega), show 2 * (2 ^ x * (2 * y + 1)) / 2 = 2 ^ x * (2 * y + 1) by omega, strip_eq f x y (by omega)]
def padr (c : Nat) : Nat → Nat
  | 0 => (strip c c).1
  | k + 1 => padr (strip c c).2 k
theorem padr_zero : ∀ k, padr 0 k = 0
  | 0 => rfl
  | k + 1 => padr_zero k
theorem padr_enc : ∀ (l : List Nat) (k : Nat), padr (encL l) k = l.getD k 0
  | [], k => by rw [encL, padr_zero]; simp
  | x :: xs, k => by
    have hx : x ≤ 2 ^ x * (2 * encL xs + 1) := Nat.le_trans (Nat.le_of_lt Nat.lt_two_pow_self) (Nat.le_mul_of_pos_right _ (by omega))
    have e : strip (encL (x :: xs)) (encL (x :: xs)) = (x, encL xs) := strip_eq _ x (encL xs) hx
    cases k with
    | zero => rw [padr, e]; simp
    | succ k => rw [padr, e, padr_enc xs k]; simp
/-- A row's slice: no block at all, or the block before this number. -/
def rowV (c len cap : Nat) : Option Value :=
  match c with
  | 0 => if len = 0 ∧ cap = 0 then some (.slice none 0 0) else none
  | b + 1 => some (.slice (some ⟨b, 0, none⟩) len cap)

/-- A symbolic value: numbers and truth values are plain terms; addresses are numbers of symbolic blocks. -/
inductive SV where
  | bool (b : Bool)
  | int (k : IntKind) (n : Int)
  | str (s : ByteArray)
  | ptr (i o : Nat)
  | eptr (i sz k j : Nat)
  | aptr (i o len k : Nat)
  | pnil
  | slice (i sz eo len cap : Nat)
  | asl (i o al l len : Nat)
  | snil
  | map (i : Nat)
  | mnil
  | fn (f : Fn) (first cap : List SV)
  | yld (i : Nat)
  | osl (b : Bool) (i sz len cap : Nat)
  | row (j k len cap : Nat)
  | rptr (j k m : Nat)
  | fnil
  | iface (t : TypeId) (v : SV)
  | inil
  | agg (cs : List SV)
  | tup (vs : List SV)
  | val (v : Value)
  deriving Inhabited

abbrev Nam := Nat → Option (Nat × Nat)

mutual
def den (η : Nam) : SV → Option Value
  | .bool b => some (.bool b)
  | .int k n => some (.int k n)
  | .str s => some (.string s)
  | .ptr i o => (η i).map fun a => .pointer (some ⟨a.1, a.2 + o, none⟩)
  | .eptr i sz k j => (η i).map fun a => .pointer (some ⟨a.1, a.2 + (k * sz + j), none⟩)
  | .aptr i o _ k => (η i).map fun a => .pointer (some ⟨a.1, a.2 + (o + k), none⟩)
  | .pnil => some (.pointer none)
  | .slice i sz eo l c => (η i).map fun a => .slice (some ⟨a.1, a.2 + eo * sz, none⟩) l c
  | .asl i o al l len => (η i).map fun a => .slice (some ⟨a.1, a.2 + (o + l), none⟩) len (al - l)
  | .snil => some (.slice none 0 0)
  | .map i => (η i).map fun a => .map (some a.1)
  | .mnil => some (.map none)
  | .fn f first cap => (denL η first).bind fun a => (denL η cap).map fun b => .func f a.toArray b.toArray
  | .yld i => (η i).map fun a => .func (.yield a.1) #[] #[]
  | .osl b i _ len cap => match b with
    | true => (η i).map fun a => .slice (some ⟨a.1, a.2, none⟩) len cap
    | false => if len = 0 ∧ cap = 0 then some (.slice none 0 0) else none
  | .row j k len cap => (η j).bind fun a => rowV (padr a.2 k) len cap
  | .rptr j k m => (η j).map fun a => .pointer (some ⟨padr a.2 k - 1, m, none⟩)
  | .fnil => some .nilFunc
  | .iface t v => (den η v).map (.iface t)
  | .inil => some .nilIface
  | .agg cs => (denL η cs).map fun l => .agg l.toArray
  | .tup vs => (denL η vs).map fun l => .tuple l.toArray
  | .val v => some v
def denL (η : Nam) : List SV → Option (List Value)
  | [] => some []
  | x :: xs => (den η x).bind fun a => (denL η xs).map fun as => a :: as
end

mutual
def ren (σ : Nat → Nat) : SV → SV
  | .ptr i o => .ptr (σ i) o
  | .eptr i sz k j => .eptr (σ i) sz k j
  | .aptr i o l k => .aptr (σ i) o l k
  | .slice i sz eo l c => .slice (σ i) sz eo l c
  | .asl i o al l len => .asl (σ i) o al l len
  | .map i => .map (σ i)
  | .fn f first cap => .fn f (renL σ first) (renL σ cap)
  | .yld i => .yld (σ i)
  | .osl b i sz l c => .osl b (σ i) sz l c
  | .row j k l c => .row (σ j) k l c
  | .rptr j k m => .rptr (σ j) k m
  | .iface t v => .iface t (ren σ v)
  | .agg cs => .agg (renL σ cs)
  | .tup vs => .tup (renL σ vs)
  | .bool b => .bool b
  | .int k n => .int k n
  | .str s => .str s
  | .pnil => .pnil
  | .snil => .snil
  | .mnil => .mnil
  | .fnil => .fnil
  | .inil => .inil
  | .val v => .val v
def renL (σ : Nat → Nat) : List SV → List SV
  | [] => []
  | x :: xs => ren σ x :: renL σ xs
end

mutual
theorem den_ren (η : Nam) (σ : Nat → Nat) : ∀ v : SV, den η (ren σ v) = den (fun i => η (σ i)) v
  | .bool _ | .int _ _ | .str _ | .pnil | .snil | .mnil | .fnil | .inil | .val _ | .ptr _ _ | .eptr _ _ _ _ | .aptr _ _ _ _ | .slice _ _ _ _ _ | .asl _ _ _ _ _ | .map _ | .yld _ | .row _ _ _ _ | .rptr _ _ _ => by simp [ren, den]
  | .osl b _ _ _ _ => by cases b <;> simp [ren, den]
  | .fn f first cap => by simp [ren, den, denL_ren η σ first, denL_ren η σ cap]
  | .iface t v => by simp [ren, den, den_ren η σ v]
  | .agg cs => by simp [ren, den, denL_ren η σ cs]
  | .tup vs => by simp [ren, den, denL_ren η σ vs]
theorem denL_ren (η : Nam) (σ : Nat → Nat) : ∀ l : List SV, denL η (renL σ l) = denL (fun i => η (σ i)) l
  | [] => by simp [renL, denL]
  | x :: xs => by simp [renL, denL, den_ren η σ x, denL_ren η σ xs]
end

def Nam.le (η η' : Nam) : Prop := ∀ i a, η i = some a → η' i = some a
theorem Nam.le.refl (η : Nam) : η.le η := fun _ _ h => h
theorem Nam.le.trans {η η' η'' : Nam} (h : η.le η') (h' : η'.le η'') : η.le η'' := fun i a e => h' i a (h i a e)

mutual
theorem den_mono {η η' : Nam} (h : η.le η') : ∀ (sv : SV) (v : Value), den η sv = some v → den η' sv = some v
  | .bool _, _, e | .int _ _, _, e | .str _, _, e | .pnil, _, e | .snil, _, e | .mnil, _, e | .fnil, _, e | .inil, _, e | .val _, _, e => by simpa [den] using e
  | .ptr i _, _, e | .eptr i _ _ _, _, e | .aptr i _ _ _, _, e | .slice i _ _ _ _, _, e | .asl i _ _ _ _, _, e | .map i, _, e | .yld i, _, e | .rptr i _ _, _, e => by
    simp only [den, Option.map_eq_some_iff] at e ⊢
    obtain ⟨a, ha, rfl⟩ := e
    exact ⟨a, h i a ha, rfl⟩
  | .osl true i _ _ _, _, e => by
    simp only [den, Option.map_eq_some_iff] at e ⊢
    obtain ⟨a, ha, rfl⟩ := e
    exact ⟨a, h i a ha, rfl⟩
  | .osl false _ _ _ _, _, e => by simpa [den] using e
  | .row j _ _ _, _, e => by
    simp only [den, Option.bind_eq_some_iff] at e ⊢
    obtain ⟨a, ha, e⟩ := e
    exact ⟨a, h j a ha, e⟩
  | .fn f first cap, v, e => by
    simp only [den, Option.bind_eq_some_iff, Option.map_eq_some_iff] at e ⊢
    obtain ⟨a, ha, b, hb, rfl⟩ := e
    exact ⟨a, denL_mono h first a ha, b, denL_mono h cap b hb, rfl⟩
  | .iface t x, v, e => by
    simp only [den, Option.map_eq_some_iff] at e ⊢
    obtain ⟨a, ha, rfl⟩ := e
    exact ⟨a, den_mono h x a ha, rfl⟩
  | .agg cs, v, e => by
    simp only [den, Option.map_eq_some_iff] at e ⊢
    obtain ⟨a, ha, rfl⟩ := e
    exact ⟨a, denL_mono h cs a ha, rfl⟩
  | .tup cs, v, e => by
    simp only [den, Option.map_eq_some_iff] at e ⊢
    obtain ⟨a, ha, rfl⟩ := e
    exact ⟨a, denL_mono h cs a ha, rfl⟩
theorem denL_mono {η η' : Nam} (h : η.le η') : ∀ (l : List SV) (vs : List Value), denL η l = some vs → denL η' l = some vs
  | [], _, e => by simpa [denL] using e
  | x :: xs, vs, e => by
    simp only [denL, Option.bind_eq_some_iff, Option.map_eq_some_iff] at e ⊢
    obtain ⟨a, ha, as, has, rfl⟩ := e
    exact ⟨a, den_mono h x a ha, as, denL_mono h xs as has, rfl⟩
end

theorem denL_cons {η : Nam} {x : SV} {xs : List SV} {vs : List Value} : denL η (x :: xs) = some vs ↔ ∃ a as, den η x = some a ∧ denL η xs = some as ∧ vs = a :: as := by
  simp only [denL, Option.bind_eq_some_iff, Option.map_eq_some_iff]
  constructor
  · rintro ⟨a, ha, as, has, rfl⟩; exact ⟨a, as, ha, has, rfl⟩
  · rintro ⟨a, as, ha, has, rfl⟩; exact ⟨a, ha, as, has, rfl⟩
theorem denL_length {η : Nam} : ∀ {l : List SV} {vs : List Value}, denL η l = some vs → vs.length = l.length
  | [], vs, e => by simp [denL] at e; simp [← e]
  | x :: xs, vs, e => by
    obtain ⟨a, as, _, has, rfl⟩ := denL_cons.1 e
    simp [denL_length has]
theorem denL_get {η : Nam} : ∀ {l : List SV} {vs : List Value}, denL η l = some vs → ∀ {j : Nat} {sv : SV}, l[j]? = some sv → ∃ v, den η sv = some v ∧ vs[j]? = some v
  | [], vs, e, j, sv, h => by simp at h
  | x :: xs, vs, e, j, sv, h => by
    obtain ⟨a, as, ha, has, rfl⟩ := denL_cons.1 e
    cases j with
    | zero => simp at h; exact ⟨a, h ▸ ha, by simp⟩
    | succ j => simp at h ⊢; exact denL_get has h
theorem denL_append {η : Nam} : ∀ {l l' : List SV} {vs vs' : List Value}, denL η l = some vs → denL η l' = some vs' → denL η (l ++ l') = some (vs ++ vs')
  | [], l', vs, vs', e, e' => by simp [denL] at e; simp [← e, e']
  | x :: xs, l', vs, vs', e, e' => by
    obtain ⟨a, as, ha, has, rfl⟩ := denL_cons.1 e
    exact denL_cons.2 ⟨a, as ++ vs', ha, denL_append has e', rfl⟩
theorem denL_take {η : Nam} : ∀ {l : List SV} {vs : List Value} (n : Nat), denL η l = some vs → denL η (l.take n) = some (vs.take n)
  | [], vs, n, e => by simp [denL] at e; subst e; simp [denL]
  | x :: xs, vs, 0, e => by simp [denL]
  | x :: xs, vs, n + 1, e => by
    obtain ⟨a, as, ha, has, rfl⟩ := denL_cons.1 e
    exact denL_cons.2 ⟨a, as.take n, ha, denL_take n has, rfl⟩
theorem denL_drop {η : Nam} : ∀ {l : List SV} {vs : List Value} (n : Nat), denL η l = some vs → denL η (l.drop n) = some (vs.drop n)
  | [], vs, n, e => by simp [denL] at e; subst e; simp [denL]
  | x :: xs, vs, 0, e => by simpa using e
  | x :: xs, vs, n + 1, e => by
    obtain ⟨a, as, ha, has, rfl⟩ := denL_cons.1 e
    simpa using denL_drop n has
def intsV (ks : List Int) : Value := .agg (ks.map (Value.int .i64)).toArray

theorem map_int_inj : ∀ {l l' : List Int}, l.map (Value.int .i64) = l'.map (Value.int .i64) → l = l'
  | [], [], _ => rfl
  | [], _ :: _, h => by simp at h
  | _ :: _, [], h => by simp at h
  | x :: xs, y :: ys, h => by
    simp only [List.map_cons, List.cons.injEq, Value.int.injEq, true_and] at h
    rw [h.1, map_int_inj h.2]
theorem intsV_inj {l l' : List Int} (h : intsV l = intsV l') : l = l' := by
  simp only [intsV, Value.agg.injEq, List.toArray_eq_iff] at h
  exact map_int_inj (by simpa using h)

/-- Every entry is right, and these keys are there. -/
def MemoObj (n : Nat) (F : List Int → Int) (has : List (List Int)) (o : Obj) : Prop :=
  ∃ es clock, o = .map es clock ∧ (∀ e ∈ es.toList, ∃ ks, ks.length = n ∧ e.key = intsV ks ∧ e.val = .int .i64 (F ks)) ∧ ∀ ks ∈ has, ∃ e ∈ es.toList, e.key = intsV ks

/-- What is known of some temporaries. -/
def relT (η : Nam) (T : List (Option SV)) (tmps : Array Value) : Prop :=
  tmps.size = T.length ∧ ∀ (k : Nat) (sv : SV), T[k]? = some (some sv) → ∃ v, den η sv = some v ∧ tmps[k]? = some v
theorem relT.mono {η η' : Nam} (hle : η.le η') {T : List (Option SV)} {tmps : Array Value} (h : relT η T tmps) : relT η' T tmps :=
  ⟨h.1, fun k sv hk => let ⟨v, h1, h2⟩ := h.2 k sv hk; ⟨v, den_mono hle _ _ h1, h2⟩⟩
def renT (σ : Nat → Nat) (T : List (Option SV)) : List (Option SV) := T.map fun x => x.map (ren σ)
theorem relT_ren (η : Nam) (σ : Nat → Nat) (T : List (Option SV)) (tmps : Array Value) : relT η (renT σ T) tmps ↔ relT (fun i => η (σ i)) T tmps := by
  unfold relT renT
  constructor
  · rintro ⟨h1, h2⟩
    refine ⟨by simpa using h1, fun k sv hk => ?_⟩
    obtain ⟨v, h3, h4⟩ := h2 k (ren σ sv) (by simp [hk])
    exact ⟨v, by rwa [den_ren] at h3, h4⟩
  · rintro ⟨h1, h2⟩
    refine ⟨by simpa using h1, fun k sv hk => ?_⟩
    simp only [List.getElem?_map, Option.map_eq_some_iff] at hk
    obtain ⟨x, hx, y, rfl, rfl⟩ := hk
    obtain ⟨v, h3, h4⟩ := h2 k y hx
    exact ⟨v, by rwa [den_ren], h4⟩

/-- A symbolic block. -/
inductive SObj where
  | dead
  | cells (cs : List SV)
  | arr (sz n cap : Nat) (get : Nat → List SV)
  | roc (cs : List SV)
  | roa (sz n : Nat) (get : Nat → List SV)
  | glob (g : Nat) (cs : List SV)
  | obj (I : Obj → Prop)
  | memo (n : Nat) (F : List Int → Int) (has : List (List Int))
  | ext (R : (Nat → Prop) → World → Prop)
  | loopr (T : List (Option SV)) (ps : Array Nat) (assign body : Code) (st : LoopState) (pend : Option Code)
  | vec (sz n : Nat) (get : Nat → List SV)
  | cmap (m : List (Int × Int))
  | citer (left : List (Int × Int)) (cur : Option (Int × Int))
  | pool (own : Bool) (n : Nat) (len : Nat → Nat) (get : Nat → Nat → Int)

def SObj.rw : SObj → Bool
  | .cells _ | .arr .. | .obj _ | .ext _ | .memo .. | .loopr .. | .vec .. | .cmap _ | .citer .. => true
  | .pool own .. => own
  | _ => false

def SObj.foot (o : SObj) (a : Nat × Nat) (F : Nat → Prop) (b : Nat) : Prop :=
  match o with
  | .dead => False
  | .ext _ => F b
  | .vec .. => F b
  | .citer .. => F b
  | .pool .. => ∃ k, padr a.2 k = b + 1
  | _ => a.1 = b

def SObj.holds (η : Nam) (o : SObj) (a : Nat × Nat) (F : Nat → Prop) (w : World) : Prop :=
  match o with
  | .dead => True
  | .cells cs => a.2 = 0 ∧ ∃ T vs, denL η cs = some vs ∧ w.heap[a.1]? = some (.cells vs.toArray T (0, 0))
  | .arr sz n cap get => a.2 = 0 ∧ ∃ T c, w.heap[a.1]? = some (.cells c T (0, 0)) ∧ cap * sz ≤ c.size ∧ n ≤ cap ∧
      ∀ k, k < n → ∃ vs, denL η (get k) = some vs ∧ vs.length = sz ∧ ∀ j v, vs[j]? = some v → c[k * sz + j]? = some v
  | .roc cs => ∃ c T fz vs, w.heap[a.1]? = some (.cells c T fz) ∧ denL η cs = some vs ∧ ∀ j v, vs[j]? = some v → c[a.2 + j]? = some v
  | .roa sz n get => ∃ c T fz, w.heap[a.1]? = some (.cells c T fz) ∧
      ∀ k, k < n → ∃ vs, denL η (get k) = some vs ∧ vs.length = sz ∧ ∀ j v, vs[j]? = some v → c[a.2 + (k * sz + j)]? = some v
  | .glob g cs => a = (g, 0) ∧ ∃ c T fz vs, w.heap[a.1]? = some (.cells c T fz) ∧ denL η cs = some vs ∧ ∀ j v, vs[j]? = some v → c[a.2 + j]? = some v
  | .obj I => ∃ ob, w.heap[a.1]? = some ob ∧ I ob
  | .memo n F has => ∃ ob, w.heap[a.1]? = some ob ∧ MemoObj n F has ob
  | .ext R => ∀ w' : World, (∀ b, F b → w'.heap[b]? = w.heap[b]?) → R F w'
  | .loopr T ps assign body st pend => ∃ fn d tmps, relT η T tmps ∧ w.heap[a.1]? = some (.loop { state := st, pending := pend, fn, tmps, params := ps, assign, body, defers := d })
  | .vec sz n get => a.2 = 0 ∧ F a.1 ∧ ((n = 0 ∧ ∃ T, w.heap[a.1]? = some (.cells #[.slice none 0 0] T (0, 0))) ∨
      (0 < n ∧ ∃ T b cap T' c, w.heap[a.1]? = some (.cells #[.slice (some ⟨b, 0, none⟩) n cap] T (0, 0)) ∧ b ≠ a.1 ∧ F b ∧ w.heap[b]? = some (.cells c T' (0, 0)) ∧ cap * sz ≤ c.size ∧ n ≤ cap ∧ cap ≤ 9223372036854775807 ∧
        ∀ k, k < n → ∃ vs, denL η (get k) = some vs ∧ vs.length = sz ∧ ∀ j v, vs[j]? = some v → c[k * sz + j]? = some v))
  | .cmap m => w.heap[a.1]? = some (mapObj m)
  | .citer left cur => a.2 = 0 ∧ IterAt left cur a.1 F w
  | .pool _ n len get => ∀ k, k < n → (padr a.2 k = 0 ∧ len k = 0) ∨ ∃ b T c, padr a.2 k = b + 1 ∧ w.heap[b]? = some (.cells c T (0, 0)) ∧ ∀ m, m < len k → c[m]? = some (.int .i64 (get k m))

theorem SObj.holds_local {η : Nam} {o : SObj} {a : Nat × Nat} {F : Nat → Prop} {w w' : World} (h : o.holds η a F w) (hw : ∀ b, o.foot a F b → w'.heap[b]? = w.heap[b]?) : o.holds η a F w' := by
  cases o <;> simp only [SObj.holds, SObj.foot] at *
  case cells => rw [hw _ rfl]; exact h
  case arr => rw [hw _ rfl]; exact h
  case roc => rw [hw _ rfl]; exact h
  case roa => rw [hw _ rfl]; exact h
  case glob => rw [hw _ rfl]; exact h
  case obj => rw [hw _ rfl]; exact h
  case memo => rw [hw _ rfl]; exact h
  case ext => exact fun w'' hw'' => h w'' fun b hb => (hw'' b hb).trans (hw b hb)
  case loopr => rw [hw _ rfl]; exact h
  case vec =>
    obtain ⟨h0, hF, h⟩ := h
    refine ⟨h0, hF, ?_⟩
    rcases h with ⟨hn, T, h1⟩ | ⟨hn, T, b, cap, T', c, h1, h2, h3, h4, h5⟩
    · exact .inl ⟨hn, T, by rw [hw _ hF]; exact h1⟩
    · exact .inr ⟨hn, T, b, cap, T', c, by rw [hw _ hF]; exact h1, h2, h3, by rw [hw _ h3]; exact h4, h5⟩
  case cmap => rw [hw _ rfl]; exact h
  case citer => exact ⟨h.1, h.2.near hw⟩
  case pool =>
    intro k hk
    rcases h k hk with h | ⟨b, T, c, h1, h3, h4⟩
    · exact .inl h
    · exact .inr ⟨b, T, c, h1, by rw [hw _ ⟨k, h1⟩]; exact h3, h4⟩

theorem SObj.holds_mono {η η' : Nam} (hη : η.le η') {o : SObj} {a : Nat × Nat} {F : Nat → Prop} {w : World} (h : o.holds η a F w) : o.holds η' a F w := by
  cases o <;> simp only [SObj.holds] at *
  case cells => obtain ⟨h0, T, vs, hd, hh⟩ := h; exact ⟨h0, T, vs, denL_mono hη _ _ hd, hh⟩
  case arr =>
    obtain ⟨h0, T, c, hh, hs, hn, hk⟩ := h
    exact ⟨h0, T, c, hh, hs, hn, fun k hkn => let ⟨vs, hd, r⟩ := hk k hkn; ⟨vs, denL_mono hη _ _ hd, r⟩⟩
  case roc => obtain ⟨c, T, fz, vs, hh, hd, hj⟩ := h; exact ⟨c, T, fz, vs, hh, denL_mono hη _ _ hd, hj⟩
  case roa =>
    obtain ⟨c, T, fz, hh, hk⟩ := h
    exact ⟨c, T, fz, hh, fun k hkn => let ⟨vs, hd, r⟩ := hk k hkn; ⟨vs, denL_mono hη _ _ hd, r⟩⟩
  case glob => obtain ⟨e, c, T, fz, vs, hh, hd, hj⟩ := h; exact ⟨e, c, T, fz, vs, hh, denL_mono hη _ _ hd, hj⟩
  case obj => exact h
  case memo => exact h
  case ext => exact h
  case loopr => obtain ⟨fn, d, tmps, h1, h2⟩ := h; exact ⟨fn, d, tmps, h1.mono hη, h2⟩
  case vec =>
    obtain ⟨h0, hF, h⟩ := h
    refine ⟨h0, hF, ?_⟩
    rcases h with h | ⟨hn, T, b, cap, T', c, h1, h2, h3, h4, h5, h6, h7, h8⟩
    · exact .inl h
    · exact .inr ⟨hn, T, b, cap, T', c, h1, h2, h3, h4, h5, h6, h7, fun k hk => let ⟨vs, hd, r⟩ := h8 k hk; ⟨vs, denL_mono hη _ _ hd, r⟩⟩
  case cmap => exact h
  case citer => exact h
  case pool => exact h

abbrev SHeap := List (Option SObj)
abbrev Feet := Nat → Nat → Prop

/-- The system, and what was put out, are the same. -/
def SameEnv (w0 w : World) : Prop := w.os = w0.os ∧ w.output = w0.output
theorem SameEnv.refl (w : World) : SameEnv w w := ⟨rfl, rfl⟩
theorem SameEnv.trans {a b c : World} (h : SameEnv a b) (h' : SameEnv b c) : SameEnv a c := ⟨h'.1.trans h.1, h'.2.trans h.2⟩

/-- World w realises the symbolic heap h; whatever world w0 held outside Ef it holds still. -/
structure Sat (η : Nam) (φ : Feet) (h : SHeap) (w0 : World) (Ef : Nat → Prop) (w : World) : Prop where
  size : w0.heap.size ≤ w.heap.size
  env : SameEnv w0 w
  keep : ∀ b, b < w0.heap.size → ¬ Ef b → w.heap[b]? = w0.heap[b]?
  dom : ∀ i a, η i = some a → ∃ o, h[i]? = some (some o)
  named : ∀ i o, h[i]? = some (some o) → ∃ a, η i = some a
  holds : ∀ i o a, h[i]? = some (some o) → η i = some a → o.holds η a (φ i) w
  bnd : ∀ i o a b, h[i]? = some (some o) → η i = some a → o.foot a (φ i) b → b < w.heap.size
  own : ∀ i o a b, h[i]? = some (some o) → η i = some a → o.rw = true → o.foot a (φ i) b → Ef b ∨ w0.heap.size ≤ b
  sep : ∀ i j oi oj ai aj b, i ≠ j → h[i]? = some (some oi) → h[j]? = some (some oj) → η i = some ai → η j = some aj → oi.rw = true → oi.foot ai (φ i) b → ¬ oj.foot aj (φ j) b

theorem Sat.world {η : Nam} {φ : Feet} {h : SHeap} {w0 : World} {Ef : Nat → Prop} {w w' : World} (s : Sat η φ h w0 Ef w) (hw : w'.heap = w.heap) (he : SameEnv w w') : Sat η φ h w0 Ef w' :=
  { size := by rw [hw]; exact s.size
    env := s.env.trans he
    keep := fun b hb he => by rw [hw]; exact s.keep b hb he
    dom := s.dom
    named := s.named
    holds := fun i o a ho ha => SObj.holds_local (s.holds i o a ho ha) fun b _ => by rw [hw]
    bnd := fun i o a b ho ha hf => by rw [hw]; exact s.bnd i o a b ho ha hf
    own := s.own
    sep := s.sep }

theorem get_set {h : SHeap} {i j : Nat} {x : Option SObj} {y : Option SObj} (e : (h.set i x)[j]? = some y) : (j = i ∧ y = x ∧ i < h.length) ∨ (j ≠ i ∧ h[j]? = some y) := by
  rw [List.getElem?_set] at e
  split at e
  · rename_i hij
    subst hij
    split at e
    · rename_i hl; exact .inl ⟨rfl, by simpa using e.symm, hl⟩
    · simp at e
  · rename_i hij; exact .inr ⟨fun e' => hij e'.symm, e⟩

/-- One owned block is written. -/
theorem Sat.upd {η : Nam} {φ : Feet} {h : SHeap} {w0 : World} {Ef : Nat → Prop} {w w' : World} {i : Nat} {o o' : SObj} {a : Nat × Nat} (s : Sat η φ h w0 Ef w)
    (hi : h[i]? = some (some o)) (ha : η i = some a) (hrw : o.rw = true) (hf : ∀ b, o'.foot a (φ i) b → o.foot a (φ i) b)
    (hsz : w'.heap.size = w.heap.size) (hother : ∀ b, ¬ o.foot a (φ i) b → w'.heap[b]? = w.heap[b]?) (ho' : o'.holds η a (φ i) w') (henv : SameEnv w w' := by exact ⟨rfl, rfl⟩) : Sat η φ (h.set i (some o')) w0 Ef w' where
  size := by rw [hsz]; exact s.size
  env := s.env.trans henv
  keep b hb he := by
    rw [hother b fun hfb => ?_]
    · exact s.keep b hb he
    · rcases s.own i o a b hi ha hrw hfb with h1 | h1
      · exact he h1
      · omega
  dom j b hj := by
    obtain ⟨o1, h1⟩ := s.dom j b hj
    by_cases hji : j = i
    · subst hji
      have hl : j < h.length := by
        rcases Nat.lt_or_ge j h.length with hl | hl
        · exact hl
        · rw [List.getElem?_eq_none hl] at hi; cases hi
      exact ⟨o', by simp [hl]⟩
    · exact ⟨o1, by rw [List.getElem?_set_ne (Ne.symm hji)]; exact h1⟩
  named j oj hj := by
    rcases get_set hj with ⟨rfl, _, _⟩ | ⟨_, hj'⟩
    · exact ⟨a, ha⟩
    · exact s.named j oj hj'
  holds j oj aj hj haj := by
    rcases get_set hj with ⟨rfl, e, _⟩ | ⟨hne, hj'⟩
    · cases e; rw [ha] at haj; cases haj; exact ho'
    · exact SObj.holds_local (s.holds j oj aj hj' haj) fun b hb => hother b fun hfb => s.sep i j o oj a aj b (Ne.symm hne) hi hj' ha haj hrw hfb hb
  bnd j oj aj b hj haj hfb := by
    rw [hsz]
    rcases get_set hj with ⟨rfl, e, _⟩ | ⟨hne, hj'⟩
    · cases e; rw [ha] at haj; cases haj; exact s.bnd j o a b hi ha (hf b hfb)
    · exact s.bnd j oj aj b hj' haj hfb
  own j oj aj b hj haj hr hfb := by
    rcases get_set hj with ⟨rfl, e, _⟩ | ⟨hne, hj'⟩
    · cases e; rw [ha] at haj; cases haj; exact s.own j o a b hi ha hrw (hf b hfb)
    · exact s.own j oj aj b hj' haj hr hfb
  sep j k oj ok aj ak b hjk hj hk haj hak hr hfb hfk := by
    rcases get_set hj with ⟨rfl, e, _⟩ | ⟨hne, hj'⟩
    · cases e
      rcases get_set hk with ⟨rfl, _, _⟩ | ⟨hnk, hk'⟩
      · exact hjk rfl
      · rw [ha] at haj; cases haj
        exact s.sep j k o ok a ak b hjk hi hk' ha hak hrw (hf b hfb) hfk
    · rcases get_set hk with ⟨rfl, e, _⟩ | ⟨hnk, hk'⟩
      · cases e; rw [ha] at hak; cases hak
        exact s.sep j k oj o aj a b hjk hj' hi haj ha hr hfb (hf b hfk)
      · exact s.sep j k oj ok aj ak b hjk hj' hk' haj hak hr hfb hfk

def Nam.put (η : Nam) (i : Nat) (a : Nat × Nat) : Nam := fun j => if j = i then some a else η j
theorem Nam.put_same (η : Nam) (i : Nat) (a : Nat × Nat) : η.put i a i = some a := by simp [Nam.put]
theorem Nam.put_other (η : Nam) {i j : Nat} (a : Nat × Nat) (h : j ≠ i) : η.put i a j = η j := by simp [Nam.put, h]
theorem Nam.le_put {η : Nam} {i : Nat} {a : Nat × Nat} (h : η i = none) : η.le (η.put i a) := fun j b e => by
  by_cases hj : j = i
  · subst hj; rw [h] at e; cases e
  · rw [Nam.put_other η a hj]; exact e

theorem Sat.free {η : Nam} {φ : Feet} {h : SHeap} {w0 : World} {Ef : Nat → Prop} {w : World} (s : Sat η φ h w0 Ef w) {i : Nat} (hi : ∀ o, h[i]? ≠ some (some o)) : η i = none := by
  cases e : η i with
  | none => rfl
  | some a => obtain ⟨o, ho⟩ := s.dom i a e; exact absurd ho (hi o)

/-- A new block. -/
theorem Sat.new {η : Nam} {φ : Feet} {h : SHeap} {w0 : World} {Ef : Nat → Prop} {w : World} {nid : Nat} {o : SObj} {ob : Obj} (s : Sat η φ h w0 Ef w)
    (hn : h[nid]? = some none) (_hrw : o.rw = true) (hfo : ∀ b, o.foot (w.heap.size, 0) (φ nid) b → b = w.heap.size)
    (ho : o.holds (η.put nid (w.heap.size, 0)) (w.heap.size, 0) (φ nid) { w with heap := w.heap.push ob }) :
    Sat (η.put nid (w.heap.size, 0)) φ (h.set nid (some o)) w0 Ef { w with heap := w.heap.push ob } := by
  have hl : nid < h.length := by
    rcases Nat.lt_or_ge nid h.length with hl | hl
    · exact hl
    · rw [List.getElem?_eq_none hl] at hn; cases hn
  have hnone : η nid = none := s.free fun o => by rw [hn]; simp
  have hle := Nam.le_put (a := (w.heap.size, 0)) hnone
  have hold : ∀ b, b < w.heap.size → (w.heap.push ob)[b]? = w.heap[b]? := fun b hb => by rw [Array.getElem?_push]; simp [Nat.ne_of_lt hb]
  exact
    { size := by simp; exact Nat.le_succ_of_le s.size
      env := s.env
      keep := fun b hb he => by simp only; rw [hold b (Nat.lt_of_lt_of_le hb s.size)]; exact s.keep b hb he
      dom := fun j b hj => by
        by_cases hji : j = nid
        · subst hji; exact ⟨o, by simp [hl]⟩
        · rw [Nam.put_other η _ hji] at hj
          obtain ⟨o1, h1⟩ := s.dom j b hj
          exact ⟨o1, by rw [List.getElem?_set_ne (Ne.symm hji)]; exact h1⟩
      named := fun j oj hj => by
        rcases get_set hj with ⟨rfl, _, _⟩ | ⟨hne, hj'⟩
        · exact ⟨_, Nam.put_same η _ _⟩
        · obtain ⟨b, hb⟩ := s.named j oj hj'; exact ⟨b, hle j b hb⟩
      holds := fun j oj aj hj haj => by
        rcases get_set hj with ⟨rfl, e, _⟩ | ⟨hne, hj'⟩
        · cases e; rw [Nam.put_same] at haj; cases haj; exact ho
        · rw [Nam.put_other η _ hne] at haj
          exact SObj.holds_local (SObj.holds_mono hle (s.holds j oj aj hj' haj)) fun b hb => hold b (s.bnd j oj aj b hj' haj hb)
      bnd := fun j oj aj b hj haj hfb => by
        simp only [Array.size_push]
        rcases get_set hj with ⟨rfl, e, _⟩ | ⟨hne, hj'⟩
        · cases e; rw [Nam.put_same] at haj; cases haj; rw [hfo b hfb]; omega
        · rw [Nam.put_other η _ hne] at haj
          exact Nat.lt_succ_of_lt (s.bnd j oj aj b hj' haj hfb)
      own := fun j oj aj b hj haj hr hfb => by
        rcases get_set hj with ⟨rfl, e, _⟩ | ⟨hne, hj'⟩
        · cases e; rw [Nam.put_same] at haj; cases haj; rw [hfo b hfb]; exact .inr s.size
        · rw [Nam.put_other η _ hne] at haj
          exact s.own j oj aj b hj' haj hr hfb
      sep := fun j k oj ok aj ak b hjk hj hk haj hak hr hfb hfk => by
        rcases get_set hj with ⟨rfl, e, _⟩ | ⟨hne, hj'⟩
        · cases e; rw [Nam.put_same] at haj; cases haj
          rcases get_set hk with ⟨rfl, _, _⟩ | ⟨hnk, hk'⟩
          · exact hjk rfl
          · rw [Nam.put_other η _ hnk] at hak
            have := s.bnd k ok ak b hk' hak hfk
            have := hfo b hfb
            omega
        · rw [Nam.put_other η _ hne] at haj
          rcases get_set hk with ⟨rfl, e, _⟩ | ⟨hnk, hk'⟩
          · cases e; rw [Nam.put_same] at hak; cases hak
            have := s.bnd j oj aj b hj' haj hfb
            have := hfo b hfk
            omega
          · rw [Nam.put_other η _ hnk] at hak
            exact s.sep j k oj ok aj ak b hjk hj' hk' haj hak hr hfb hfk }

/-- A block goes by a new name; the old one is given up. -/
theorem Sat.move {η : Nam} {φ : Feet} {h : SHeap} {w0 : World} {Ef : Nat → Prop} {w : World} {i nid : Nat} {o : SObj} {a : Nat × Nat} (s : Sat η φ h w0 Ef w)
    (hi : h[i]? = some (some o)) (ha : η i = some a) (hn : h[nid]? = some none) (hf : ∀ b, o.foot a (φ nid) b → o.foot a (φ i) b) (hh : o.holds η a (φ nid) w) :
    Sat (η.put nid a) φ ((h.set i (some .dead)).set nid (some o)) w0 Ef w := by
  have hnone : η nid = none := s.free fun o => by rw [hn]; simp
  have hle := Nam.le_put (a := a) hnone
  have hne : i ≠ nid := fun e => by subst e; rw [hi] at hn; cases hn
  have hl : nid < h.length := by
    rcases Nat.lt_or_ge nid h.length with hl | hl
    · exact hl
    · rw [List.getElem?_eq_none hl] at hn; cases hn
  have hli : i < h.length := by
    rcases Nat.lt_or_ge i h.length with hl | hl
    · exact hl
    · rw [List.getElem?_eq_none hl] at hi; cases hi
  have key : ∀ j oj, ((h.set i (some .dead)).set nid (some o))[j]? = some (some oj) → (j = nid ∧ oj = o) ∨ (j = i ∧ oj = .dead) ∨ (j ≠ nid ∧ j ≠ i ∧ h[j]? = some (some oj)) := fun j oj hj => by
    rcases get_set hj with ⟨h1, h2, _⟩ | ⟨h1, h2⟩
    · cases h2; exact .inl ⟨h1, rfl⟩
    · rcases get_set h2 with ⟨h3, h4, _⟩ | ⟨h3, h4⟩
      · cases h4; exact .inr (.inl ⟨h3, rfl⟩)
      · exact .inr (.inr ⟨h1, h3, h4⟩)
  exact
    { size := s.size
      env := s.env
      keep := s.keep
      dom := fun j b hj => by
        by_cases hjn : j = nid
        · subst hjn; exact ⟨o, by simp [hl]⟩
        · rw [Nam.put_other η _ hjn] at hj
          by_cases hji : j = i
          · subst hji; exact ⟨.dead, by rw [List.getElem?_set_ne (Ne.symm hjn)]; simp [hli]⟩
          · obtain ⟨o1, h1⟩ := s.dom j b hj
            exact ⟨o1, by rw [List.getElem?_set_ne (Ne.symm hjn), List.getElem?_set_ne (Ne.symm hji)]; exact h1⟩
      named := fun j oj hj => by
        rcases key j oj hj with ⟨rfl, _⟩ | ⟨rfl, _⟩ | ⟨h1, h2, h3⟩
        · exact ⟨a, Nam.put_same η _ _⟩
        · exact ⟨a, hle _ a ha⟩
        · obtain ⟨b, hb⟩ := s.named j oj h3; exact ⟨b, hle j b hb⟩
      holds := fun j oj aj hj haj => by
        rcases key j oj hj with ⟨rfl, rfl⟩ | ⟨rfl, rfl⟩ | ⟨h1, h2, h3⟩
        · rw [Nam.put_same] at haj; cases haj; exact SObj.holds_mono hle hh
        · trivial
        · rw [Nam.put_other η _ h1] at haj; exact SObj.holds_mono hle (s.holds j oj aj h3 haj)
      bnd := fun j oj aj b hj haj hfb => by
        rcases key j oj hj with ⟨rfl, rfl⟩ | ⟨rfl, rfl⟩ | ⟨h1, h2, h3⟩
        · rw [Nam.put_same] at haj; cases haj; exact s.bnd i _ a b hi ha (hf b hfb)
        · exact hfb.elim
        · rw [Nam.put_other η _ h1] at haj; exact s.bnd j oj aj b h3 haj hfb
      own := fun j oj aj b hj haj hr hfb => by
        rcases key j oj hj with ⟨rfl, rfl⟩ | ⟨rfl, rfl⟩ | ⟨h1, h2, h3⟩
        · rw [Nam.put_same] at haj; cases haj; exact s.own i _ a b hi ha hr (hf b hfb)
        · exact hfb.elim
        · rw [Nam.put_other η _ h1] at haj; exact s.own j oj aj b h3 haj hr hfb
      sep := fun j k oj ok aj ak b hjk hj hk haj hak hr hfb hfk => by
        rcases key j oj hj with ⟨rfl, rfl⟩ | ⟨rfl, rfl⟩ | ⟨h1, h2, h3⟩
        · rw [Nam.put_same] at haj; cases haj
          rcases key k ok hk with ⟨rfl, rfl⟩ | ⟨rfl, rfl⟩ | ⟨h1, h2, h3⟩
          · exact hjk rfl
          · exact hfk
          · rw [Nam.put_other η _ h1] at hak; exact s.sep i k _ ok a ak b (Ne.symm h2) hi h3 ha hak hr (hf b hfb) hfk
        · exact hfb
        · rw [Nam.put_other η _ h1] at haj
          rcases key k ok hk with ⟨rfl, rfl⟩ | ⟨rfl, rfl⟩ | ⟨h4, h5, h6⟩
          · rw [Nam.put_same] at hak; cases hak; exact s.sep j i oj _ aj a b h2 h3 hi haj ha hr hfb (hf b hfk)
          · exact hfk
          · rw [Nam.put_other η _ h4] at hak; exact s.sep j k oj ok aj ak b hjk h3 h6 haj hak hr hfb hfk }

/-- Two blocks become one. -/
theorem Sat.join {η : Nam} {φ : Feet} {h : SHeap} {w0 : World} {Ef : Nat → Prop} {w : World} {i j : Nat} {oi oj o' : SObj} {ai aj : Nat × Nat} (s : Sat η φ h w0 Ef w)
    (hi : h[i]? = some (some oi)) (hai : η i = some ai) (hj : h[j]? = some (some oj)) (haj : η j = some aj) (hri : oi.rw = true) (hrj : oj.rw = true) (F' : Nat → Prop)
    (hf : ∀ b, o'.foot ai F' b → oi.foot ai (φ i) b ∨ oj.foot aj (φ j) b) (hh : o'.holds η ai F' w) : Sat η (fun k => if k = i then F' else φ k) ((h.set j (some .dead)).set i (some o')) w0 Ef w := by
  have key : ∀ k ok, ((h.set j (some .dead)).set i (some o'))[k]? = some (some ok) → (k = i ∧ ok = o') ∨ (k ≠ i ∧ k = j ∧ ok = .dead) ∨ (k ≠ i ∧ k ≠ j ∧ h[k]? = some (some ok)) := fun k ok hk => by
    rcases get_set hk with ⟨h1, h2, _⟩ | ⟨h1, h2⟩
    · cases h2; exact .inl ⟨h1, rfl⟩
    · rcases get_set h2 with ⟨h3, h4, _⟩ | ⟨h3, h4⟩
      · cases h4; exact .inr (.inl ⟨h1, h3, rfl⟩)
      · exact .inr (.inr ⟨h1, h3, h4⟩)
  have lt_get : ∀ {i : Nat} {x : Option SObj}, h[i]? = some x → i < h.length := fun {i x} e => by
    rcases Nat.lt_or_ge i h.length with hl | hl
    · exact hl
    · rw [List.getElem?_eq_none hl] at e; cases e
  have hli := lt_get hi
  have hlj := lt_get hj
  exact
    { size := s.size
      env := s.env
      keep := s.keep
      dom := fun k b hk => by
        by_cases hki : k = i
        · subst hki; exact ⟨o', by simp [hli]⟩
        · by_cases hkj : k = j
          · subst hkj; exact ⟨.dead, by rw [List.getElem?_set_ne (Ne.symm hki)]; simp [hlj]⟩
          · obtain ⟨o1, h1⟩ := s.dom k b hk
            exact ⟨o1, by rw [List.getElem?_set_ne (Ne.symm hki), List.getElem?_set_ne (Ne.symm hkj)]; exact h1⟩
      named := fun k ok hk => by
        rcases key k ok hk with ⟨rfl, _⟩ | ⟨_, rfl, _⟩ | ⟨_, _, h3⟩
        · exact ⟨_, hai⟩
        · exact ⟨_, haj⟩
        · exact s.named k ok h3
      holds := fun k ok a hk ha => by
        rcases key k ok hk with ⟨rfl, rfl⟩ | ⟨_, rfl, rfl⟩ | ⟨h1, _, h3⟩
        · rw [hai] at ha; cases ha; simpa using hh
        · trivial
        · simp only [if_neg h1]; exact s.holds k ok a h3 ha
      bnd := fun k ok a b hk ha hb => by
        rcases key k ok hk with ⟨rfl, rfl⟩ | ⟨_, rfl, rfl⟩ | ⟨h1, _, h3⟩
        · rw [hai] at ha; cases ha
          simp only [if_true] at hb
          rcases hf b hb with h | h
          · exact s.bnd _ _ _ b hi hai h
          · exact s.bnd _ _ _ b hj haj h
        · exact hb.elim
        · simp only [if_neg h1] at hb; exact s.bnd k ok a b h3 ha hb
      own := fun k ok a b hk ha hr hb => by
        rcases key k ok hk with ⟨rfl, rfl⟩ | ⟨_, rfl, rfl⟩ | ⟨h1, _, h3⟩
        · rw [hai] at ha; cases ha
          simp only [if_true] at hb
          rcases hf b hb with h | h
          · exact s.own _ _ _ b hi hai hri h
          · exact s.own _ _ _ b hj haj hrj h
        · exact hb.elim
        · simp only [if_neg h1] at hb; exact s.own k ok a b h3 ha hr hb
      sep := fun k l ok ol ak al b hkl hk hl hak hal hr hb hb' => by
        rcases key k ok hk with ⟨rfl, rfl⟩ | ⟨_, rfl, rfl⟩ | ⟨h1, h2, h3⟩
        · rw [hai] at hak; cases hak
          simp only [if_true] at hb
          rcases key l ol hl with ⟨rfl, rfl⟩ | ⟨_, rfl, rfl⟩ | ⟨h4, h5, h6⟩
          · exact hkl rfl
          · exact hb'
          · simp only [if_neg h4] at hb'
            rcases hf b hb with h | h
            · exact s.sep _ l _ ol ai al b (Ne.symm h4) hi h6 hai hal hri h hb'
            · exact s.sep _ l _ ol aj al b (Ne.symm h5) hj h6 haj hal hrj h hb'
        · exact hb
        · simp only [if_neg h1] at hb
          rcases key l ol hl with ⟨rfl, rfl⟩ | ⟨_, rfl, rfl⟩ | ⟨h4, h5, h6⟩
          · rw [hai] at hal; cases hal
            simp only [if_true] at hb'
            rcases hf b hb' with h | h
            · exact s.sep k _ ok _ ak ai b h1 h3 hi hak hai hr hb h
            · exact s.sep k _ ok _ ak aj b h2 h3 hj hak haj hr hb h
          · exact hb'
          · simp only [if_neg h4] at hb'
            exact s.sep k l ok ol ak al b hkl h3 h6 hak hal hr hb hb' }

/-- The last slot, held free, is given back. -/
theorem Sat.trim {η : Nam} {φ : Feet} {h : SHeap} {w0 : World} {Ef : Nat → Prop} {w : World} (s : Sat η φ (h ++ [none]) w0 Ef w) : Sat η φ h w0 Ef w := by
  have key : ∀ i o, (h ++ [none])[i]? = some (some o) ↔ h[i]? = some (some o) := fun i o => by
    rw [List.getElem?_append]
    split
    · rfl
    · rename_i hl
      rw [List.getElem?_eq_none (Nat.le_of_not_lt hl)]
      cases i - h.length with
      | zero => simp
      | succ n => simp
  exact { size := s.size, env := s.env, keep := s.keep, dom := fun i a e => let ⟨o, ho⟩ := s.dom i a e; ⟨o, (key i o).1 ho⟩, named := fun i o ho => s.named i o ((key i o).2 ho)
          holds := fun i o a ho ha => s.holds i o a ((key i o).2 ho) ha, bnd := fun i o a b ho ha => s.bnd i o a b ((key i o).2 ho) ha
          own := fun i o a b ho ha => s.own i o a b ((key i o).2 ho) ha, sep := fun i j oi oj ai aj b hij hi hj => s.sep i j oi oj ai aj b hij ((key i oi).2 hi) ((key j oj).2 hj) }

/-- Slots held free behind the last one. -/
theorem Sat.room {η : Nam} {φ : Feet} {h : SHeap} {w0 : World} {Ef : Nat → Prop} {w : World} (n : Nat) (s : Sat η φ h w0 Ef w) : Sat η φ (h ++ List.replicate n none) w0 Ef w := by
  have key : ∀ i o, (h ++ List.replicate n none)[i]? = some (some o) ↔ h[i]? = some (some o) := fun i o => by
    rw [List.getElem?_append]
    split
    · rfl
    · rename_i hl
      rw [List.getElem?_replicate, List.getElem?_eq_none (Nat.le_of_not_lt hl)]
      split <;> simp
  exact { size := s.size, env := s.env, keep := s.keep, dom := fun i a e => let ⟨o, ho⟩ := s.dom i a e; ⟨o, (key i o).2 ho⟩, named := fun i o ho => s.named i o ((key i o).1 ho)
          holds := fun i o a ho ha => s.holds i o a ((key i o).1 ho) ha, bnd := fun i o a b ho ha => s.bnd i o a b ((key i o).1 ho) ha
          own := fun i o a b ho ha => s.own i o a b ((key i o).1 ho) ha, sep := fun i j oi oj ai aj b hij hi hj => s.sep i j oi oj ai aj b hij ((key i oi).1 hi) ((key j oj).1 hj) }

/-- A block is said less of. -/
theorem Sat.less {η : Nam} {φ : Feet} {h : SHeap} {w0 : World} {Ef : Nat → Prop} {w : World} {i : Nat} {o o' : SObj} (s : Sat η φ h w0 Ef w) (hi : h[i]? = some (some o))
    (hf : ∀ a b, o'.foot a (φ i) b → o.foot a (φ i) b) (hr : o'.rw = true → o.rw = true) (hh : ∀ a, o.holds η a (φ i) w → o'.holds η a (φ i) w) : Sat η φ (h.set i (some o')) w0 Ef w where
  size := s.size
  env := s.env
  keep := s.keep
  dom j b hj := by
    obtain ⟨o1, h1⟩ := s.dom j b hj
    by_cases hji : j = i
    · subst hji
      have hl : j < h.length := by
        rcases Nat.lt_or_ge j h.length with hl | hl
        · exact hl
        · rw [List.getElem?_eq_none hl] at hi; cases hi
      exact ⟨o', by simp [hl]⟩
    · exact ⟨o1, by rw [List.getElem?_set_ne (Ne.symm hji)]; exact h1⟩
  named j oj hj := by
    rcases get_set hj with ⟨rfl, _, _⟩ | ⟨_, hj'⟩
    · exact s.named _ o hi
    · exact s.named j oj hj'
  holds j oj aj hj haj := by
    rcases get_set hj with ⟨rfl, e, _⟩ | ⟨hne, hj'⟩
    · cases e; exact hh aj (s.holds _ o aj hi haj)
    · exact s.holds j oj aj hj' haj
  bnd j oj aj b hj haj hfb := by
    rcases get_set hj with ⟨rfl, e, _⟩ | ⟨hne, hj'⟩
    · cases e; exact s.bnd _ o aj b hi haj (hf _ b hfb)
    · exact s.bnd j oj aj b hj' haj hfb
  own j oj aj b hj haj hrj hfb := by
    rcases get_set hj with ⟨rfl, e, _⟩ | ⟨hne, hj'⟩
    · cases e; exact s.own _ o aj b hi haj (hr hrj) (hf _ b hfb)
    · exact s.own j oj aj b hj' haj hrj hfb
  sep j k oj ok aj ak b hjk hj hk haj hak hrj hfb hfk := by
    rcases get_set hj with ⟨rfl, e, _⟩ | ⟨hne, hj'⟩
    · cases e
      rcases get_set hk with ⟨rfl, _, _⟩ | ⟨hnk, hk'⟩
      · exact hjk rfl
      · exact s.sep _ k o ok aj ak b hjk hi hk' haj hak (hr hrj) (hf _ b hfb) hfk
    · rcases get_set hk with ⟨rfl, e, _⟩ | ⟨hnk, hk'⟩
      · cases e; exact s.sep j _ oj o aj ak b hjk hj' hi haj hak hrj hfb (hf _ b hfk)
      · exact s.sep j k oj ok aj ak b hjk hj' hk' haj hak hrj hfb hfk
end Go.Sy
