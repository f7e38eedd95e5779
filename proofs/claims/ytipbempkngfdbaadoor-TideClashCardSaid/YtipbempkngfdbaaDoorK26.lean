/-
  Parts: D4, D5, D6.
-/
import Derived.Test.YtipbempkngfdbaaDoorK25
import Derived.Test.YtipbempkngfdbaaDoorK19
import Derived.Test.YtipbempkngfdbaaDoorK23
import Derived.Test.YtipbempkngfdbaaDoorK24
/-
  The plain law of Clash.
-/
namespace Go.Proofs.YtipbempkngfdbaaDoor
open Go Go.Sy
set_option maxRecDepth 100000
set_option maxHeartbeats 4000000

/-- A tide with some of its looks. -/
def TD.byL (t : TD) (L : List Nat) (b : Bool) (c : Nat) : TD :=
  { t with nL := L.length, bL := b, cL := c, lp := fun m => t.lp (L.getD m 0), lm := fun m => t.lm (L.getD m 0), llo := fun m => t.llo (L.getD m 0), lhi := fun m => t.lhi (L.getD m 0) }
theorem sub_byL (t : TD) (so : Int) : t.sub so = t.byL (keptL so t.nL) true t.nL := rfl
def TD.fitsL (t : TD) (L : List Nat) (h s : Nat → Int) : Bool := L.all fun i => t.fit h i (s (t.lp i).toNat)
theorem byL_right (t : TD) (L : List Nat) (b : Bool) (c : Nat) (h s : Nat → Int) : (t.byL L b c).right h s = t.fitsL L h s := by
  rw [TD.right, TD.fitsL, Bool.eq_iff_iff, allB_iff, List.all_eq_true]
  constructor
  · intro a i hi
    obtain ⟨j, hj, rfl⟩ := List.getElem_of_mem hi
    have := a j hj
    have e : L.getD j 0 = L[j] := by rw [List.getD_eq_getElem?_getD, List.getElem?_eq_getElem hj]; rfl
    rw [← e]
    exact this
  · intro a j hj
    have hj' : j < L.length := hj
    have e : L.getD j 0 = L[j] := by rw [List.getD_eq_getElem?_getD, List.getElem?_eq_getElem hj']; rfl
    have := a (L.getD j 0) (by rw [e]; exact List.getElem_mem hj')
    exact this
theorem byL_valid {t : TD} (hv : t.Valid) {L : List Nat} (b : Bool) (c : Nat) (hl : L.length ≤ t.nL) (hm : ∀ i ∈ L, i < t.nL) : (t.byL L b c).Valid := by
  obtain ⟨h1, h2, h3, h4, h5, h6⟩ := hv
  refine ⟨h1, h2, Nat.le_trans hl h3, h4, h5, fun i hi => ?_⟩
  have hi' : i < L.length := hi
  have hm' : L.getD i 0 ∈ L := by
    rw [List.getD_eq_getElem?_getD, List.getElem?_eq_getElem hi']
    exact List.getElem_mem hi'
  exact h6 _ (hm _ hm')
/-- All truths, by some looks. -/
def TD.truL (t : TD) (L : List Nat) : List ((Nat → Int) × (Nat → Int)) := t.hts.flatMap fun h => (t.sds.filter (t.fitsL L h)).map fun s => (h, s)
theorem byL_tru (t : TD) (L : List Nat) (b : Bool) (c : Nat) : (t.byL L b c).tru = t.truL L := by
  have e : (t.byL L b c).tru = t.hts.flatMap fun h => (t.sds.filter ((t.byL L b c).right h)).map fun s => (h, s) := rfl
  rw [e, TD.truL]
  congr 1
  funext h
  congr 1
  exact List.filter_congr fun s _ => byL_right t L b c h s
theorem truL_congr {t : TD} {L L' : List Nat} (h : ∀ i, i ∈ L ↔ i ∈ L') : t.truL L = t.truL L' := by
  rw [TD.truL, TD.truL]
  congr 1
  funext x
  congr 1
  refine List.filter_congr fun s _ => ?_
  rw [TD.fitsL, TD.fitsL, Bool.eq_iff_iff, List.all_eq_true, List.all_eq_true]
  exact ⟨fun a i hi => a i ((h i).2 hi), fun a i hi => a i ((h i).1 hi)⟩
theorem tru_all (t : TD) : t.tru = t.truL (List.range t.nL) := by
  rw [TD.truL, TD.tru]
  congr 1
  funext h
  congr 1
  refine List.filter_congr fun s _ => ?_
  rw [TD.right, TD.fitsL, Bool.eq_iff_iff, allB_iff, List.all_eq_true]
  simp only [List.mem_range]
theorem box_some {t : TD} (hv : t.Valid) : t.truL [] ≠ [] := by
  have h1 : (fun i => if i < t.nM then t.mlo i else 0) ∈ t.hts := hts_mem.2 ⟨fun i hi => by
    have := hv.marks (i := i) hi
    simp only [TD.markOk] at this
    simp only [if_pos hi]
    omega, fun i hi => by simp only [if_neg (show ¬ i < t.nM by omega)]⟩
  have h2 : (fun i => if i < t.nS then t.slo i else 0) ∈ t.sds := sds_mem.2 ⟨fun i hi => by
    have := hv.2.2.2.2.1 i hi
    simp only [TD.sandOk] at this
    simp only [if_pos hi]
    omega, fun i hi => by simp only [if_neg (show ¬ i < t.nS by omega)]⟩
  intro h
  have : ((fun i => if i < t.nM then t.mlo i else 0), (fun i => if i < t.nS then t.slo i else 0)) ∈ t.truL [] := by
    rw [TD.truL, List.mem_flatMap]
    exact ⟨_, h1, List.mem_map.2 ⟨_, List.mem_filter.2 ⟨h2, rfl⟩, rfl⟩⟩
  rw [h] at this
  simp at this

/-! ### Sets -/
/-- Look n is of a set, in the statement's numbers. -/
def bitI (so : Int) (n : Nat) : Bool := decide (bitOp .and .i64 (so.fdiv (2 ^ n)) 1 = 1)
/-- The looks of a set, of the first k. -/
def pickL (so : Int) : Nat → List Nat
  | 0 => []
  | k + 1 => if bitI so k = true then pickL so k ++ [k] else pickL so k
theorem pickL_mem {so : Int} {i : Nat} : ∀ {k : Nat}, i ∈ pickL so k ↔ i < k ∧ bitI so i = true
  | 0 => by simp [pickL]
  | k + 1 => by
    simp only [pickL]
    split
    · rename_i h
      rw [List.mem_append, pickL_mem (k := k), List.mem_singleton]
      constructor
      · rintro (⟨a, b⟩ | rfl)
        · exact ⟨by omega, b⟩
        · exact ⟨by omega, h⟩
      · rintro ⟨a, b⟩
        rcases Nat.lt_succ_iff_lt_or_eq.1 a with c | c
        · exact .inl ⟨c, b⟩
        · exact .inr c
    · rename_i h
      rw [pickL_mem (k := k)]
      constructor
      · rintro ⟨a, b⟩
        exact ⟨by omega, b⟩
      · rintro ⟨a, b⟩
        rcases Nat.lt_succ_iff_lt_or_eq.1 a with c | c
        · exact ⟨c, b⟩
        · subst c
          exact absurd b h
theorem keptL_mem {so : Int} {i : Nat} : ∀ {k : Nat}, i ∈ keptL so k ↔ i < k ∧ inSet so i = false
  | 0 => by simp [keptL]
  | k + 1 => by
    simp only [keptL]
    split
    · rename_i h
      rw [keptL_mem (k := k)]
      constructor
      · rintro ⟨a, b⟩
        exact ⟨by omega, b⟩
      · rintro ⟨a, b⟩
        rcases Nat.lt_succ_iff_lt_or_eq.1 a with c | c
        · exact ⟨c, b⟩
        · subst c
          rw [h] at b
          cases b
    · rename_i h
      rw [List.mem_append, keptL_mem (k := k), List.mem_singleton]
      constructor
      · rintro (⟨a, b⟩ | rfl)
        · exact ⟨by omega, b⟩
        · exact ⟨by omega, by simpa using h⟩
      · rintro ⟨a, b⟩
        rcases Nat.lt_succ_iff_lt_or_eq.1 a with c | c
        · exact .inl ⟨c, b⟩
        · exact .inr c
theorem pickL_len (so : Int) : ∀ k, (pickL so k).length ≤ k
  | 0 => Nat.le_refl _
  | k + 1 => by
    have := pickL_len so k
    simp only [pickL]
    split
    · simp; omega
    · omega
theorem rest_dec : ∀ n, n < 7 → ∀ so, so < 2 ^ n → ∀ i, i < n → inSet (bitOp .andNot .u64 (2 ^ n - 1) (so : Nat)) i = !bitI (so : Nat) i := by decide +kernel
theorem every_dec : ∀ n, n < 7 → ∀ i, i < n → bitI (2 ^ n - 1) i = true := by decide +kernel
theorem zero_dec : ∀ i, i < 6 → bitI 0 i = false := by decide +kernel
theorem less_dec1 : ∀ n, n < 7 → ∀ so, so < 2 ^ n → ∀ i, i < n → 0 ≤ bitOp .andNot .i64 (so : Nat) (1 * 2 ^ i) ∧ bitOp .andNot .i64 (so : Nat) (1 * 2 ^ i) < 2 ^ n := by decide +kernel
theorem less_dec2 : ∀ so, so < 64 → ∀ i, i < 6 → bitI (so : Nat) i = true → oc64 (bitOp .andNot .i64 (so : Nat) (1 * 2 ^ i)) < oc64 (so : Nat) := by decide +kernel
theorem own_dec : ∀ n, n < 7 → ∀ b, b < 256 → 0 ≤ bitOp .and .i64 (b : Nat) (1 * 2 ^ n - 1) ∧ bitOp .and .i64 (b : Nat) (1 * 2 ^ n - 1) < 2 ^ n := by decide +kernel
theorem size_dec : ∀ s, s < 64 → oc64 (s : Nat) = ((s % 2 : Nat) : Int) + oc64 ((s / 2 : Nat) : Int) := by decide +kernel
theorem oc_dec : ∀ n : Nat, n < 7 → oc64 (2 ^ n - 1) = n := by decide +kernel
theorem oc_range_dec : ∀ s, s < 64 → 0 ≤ oc64 (s : Nat) ∧ oc64 (s : Nat) ≤ 6 := by decide +kernel

/-- Can the looks of a set all be right? -/
theorem can_pick {t : TD} (hv : t.Valid) {so : Int} (h0 : 0 ≤ so) (h1 : so < 2 ^ t.nL) : t.can so = true ↔ t.truL (pickL so t.nL) ≠ [] := by
  obtain ⟨s, rfl⟩ := Int.eq_ofNat_of_zero_le h0
  have h1' : s < 2 ^ t.nL := by exact_mod_cast h1
  have hL := hv.2.2.1
  have hr := fun i hi => rest_dec t.nL (by omega) s h1' i hi
  have e : t.truL (keptL (t.restOf s) t.nL) = t.truL (pickL s t.nL) := truL_congr fun i => by
    rw [keptL_mem, pickL_mem]
    constructor
    · rintro ⟨a, b⟩
      refine ⟨a, ?_⟩
      have := hr i a
      rw [TD.restOf] at b
      rw [b] at this
      simpa using this.symm
    · rintro ⟨a, b⟩
      refine ⟨a, ?_⟩
      rw [TD.restOf, hr i a, b]
      rfl
  rw [TD.can, decide_eq_true_eq, ← e]
  have h2 := all_nil (sub_valid hv (t.restOf s))
  rw [sub_byL, byL_tru] at h2
  exact not_congr h2
theorem pick_every {t : TD} (hv : t.Valid) : t.truL (pickL (2 ^ t.nL - 1) t.nL) = t.tru := by
  rw [tru_all]
  refine truL_congr fun i => ?_
  rw [pickL_mem, List.mem_range]
  exact ⟨fun a => a.1, fun a => ⟨a, every_dec t.nL (by have := hv.2.2.1; omega) i a⟩⟩
theorem pick_zero {t : TD} (hv : t.Valid) : t.truL (pickL 0 t.nL) ≠ [] := by
  have : t.truL (pickL 0 t.nL) = t.truL [] := truL_congr fun i => by
    rw [pickL_mem]
    refine ⟨fun ⟨a, b⟩ => ?_, fun a => by simp at a⟩
    rw [zero_dec i (by have := hv.2.2.1; omega)] at b
    cases b
  rw [this]
  exact box_some hv

theorem inS_spec {can : Int → Bool} {many : Int} : ∀ (c : Nat) (s : Int), (inS can many c s = none ∧ ∀ x, s ≤ x → x < s + c → oc64 x = many → can x = true) ∨
    ∃ v, inS can many c s = some v ∧ s ≤ v ∧ v < s + c ∧ oc64 v = many ∧ can v = false ∧ ∀ x, s ≤ x → x < v → oc64 x = many → can x = true
  | 0, s => .inl ⟨rfl, fun x h1 h2 => by omega⟩
  | c + 1, s => by
    simp only [inS]
    by_cases h : oc64 s = many ∧ can s = false
    · rw [if_pos h]
      exact .inr ⟨s, rfl, Int.le_refl _, by omega, h.1, h.2, fun x h1 h2 => by omega⟩
    · rw [if_neg h]
      have hs : oc64 s = many → can s = true := fun h2 => by
        cases hc : can s
        · exact absurd ⟨h2, hc⟩ h
        · rfl
      rcases inS_spec (can := can) (many := many) c (s + 1) with ⟨e, h1⟩ | ⟨v, e, h1, h2, h3, h4, h5⟩
      · refine .inl ⟨e, fun x h2 h3 h4 => ?_⟩
        rcases Int.lt_or_eq_of_le h2 with h5 | rfl
        · exact h1 x (by omega) (by omega) h4
        · exact hs h4
      · refine .inr ⟨v, e, by omega, by omega, h3, h4, fun x h6 h7 h8 => ?_⟩
        rcases Int.lt_or_eq_of_le h6 with h9 | rfl
        · exact h5 x (by omega) h7 h8
        · exact hs h8
theorem outS_spec {can : Int → Bool} {N : Nat} : ∀ (c : Nat) (m : Int), (outS can N c m = none ∧ ∀ x : Int, 0 ≤ x → x < N → m ≤ oc64 x → oc64 x < m + c → can x = true) ∨
    ∃ v : Int, outS can N c m = some v ∧ 0 ≤ v ∧ v < N ∧ can v = false ∧ ∀ x : Int, 0 ≤ x → x < N → m ≤ oc64 x → can x = false → oc64 v < oc64 x ∨ oc64 v = oc64 x ∧ v ≤ x
  | 0, m => .inl ⟨rfl, fun x h1 h2 h3 h4 => by omega⟩
  | c + 1, m => by
    simp only [outS]
    rcases inS_spec (can := can) (many := m) N 0 with ⟨e, h1⟩ | ⟨v, e, h1, h2, h3, h4, h5⟩
    · rw [e]
      rcases outS_spec (can := can) (N := N) c (m + 1) with ⟨e2, g1⟩ | ⟨v, e2, g1, g2, g3, g4⟩
      · refine .inl ⟨e2, fun x a1 a2 a3 a4 => ?_⟩
        rcases Int.lt_or_eq_of_le a3 with a5 | a5
        · exact g1 x a1 a2 (by omega) (by omega)
        · exact h1 x a1 (by omega) a5.symm
      · refine .inr ⟨v, e2, g1, g2, g3, fun x a1 a2 a3 a4 => ?_⟩
        rcases Int.lt_or_eq_of_le a3 with a5 | a5
        · exact g4 x a1 a2 (by omega) a4
        · rw [h1 x a1 (by omega) a5.symm] at a4
          cases a4
    · rw [e]
      refine .inr ⟨v, rfl, h1, by omega, h4, fun x a1 a2 a3 a4 => ?_⟩
      rcases Int.lt_or_eq_of_le a3 with a5 | a5
      · exact .inl (by omega)
      · refine .inr ⟨by omega, ?_⟩
        rcases Int.lt_or_le x v with a6 | a6
        · rw [h5 x a1 a6 a5.symm] at a4
          cases a4
        · exact a6
/-- What Clash tells. -/
theorem clash_law {t : TD} (hv : t.Valid) : (t.tru ≠ [] ∧ t.clashT = ⟨0, 4⟩) ∨
    ∃ v : Int, t.tru = [] ∧ t.clashT = ⟨v, 0⟩ ∧ 1 ≤ v ∧ v < 2 ^ t.nL ∧ t.truL (pickL v t.nL) = [] ∧ ∀ x : Int, 0 ≤ x → x < 2 ^ t.nL → t.truL (pickL x t.nL) = [] → oc64 v < oc64 x ∨ oc64 v = oc64 x ∧ v ≤ x := by
  have hL := hv.2.2.1
  have hp : (0 : Int) < 2 ^ t.nL := by
    have : 0 < 2 ^ t.nL := Nat.pow_pos (by omega)
    exact_mod_cast this
  have hN : ((2 ^ t.nL : Nat) : Int) = 2 ^ t.nL := by norm_cast
  have he := can_pick hv (so := 2 ^ t.nL - 1) (by omega) (by omega)
  rw [pick_every hv] at he
  by_cases hn : t.tru = []
  · have hc : t.can (2 ^ t.nL - 1) = false := by
      cases h : t.can (2 ^ t.nL - 1)
      · rfl
      · exact absurd hn (he.1 h)
    have hno : ∀ x : Int, 0 ≤ x → x < 2 ^ t.nL → (t.can x = false ↔ t.truL (pickL x t.nL) = []) := fun x h0 h1 => by
      have := can_pick hv h0 h1
      rw [← Bool.not_eq_true, this, Classical.not_not]
    rcases outS_spec (can := t.can) (N := 2 ^ t.nL) (t.nL + 1) 0 with ⟨_, h1⟩ | ⟨v, e, h1, h2, h3, h4⟩
    · have ho := oc_dec t.nL (by omega)
      rw [h1 (2 ^ t.nL - 1) (by omega) (by omega) (by omega) (by push_cast; omega)] at hc
      cases hc
    · have h2' : v < 2 ^ t.nL := by omega
      refine .inr ⟨v, hn, ?_, ?_, h2', (hno v h1 h2').1 h3, fun x a1 a2 a3 => h4 x a1 (by omega) ?_ ((hno x a1 a2).2 a3)⟩
      · unfold TD.clashT
        rw [if_neg (fun h => h hv), if_neg (by rw [hc]; decide), e]
        rfl
      · rcases Int.lt_or_eq_of_le h1 with h5 | rfl
        · omega
        · exact absurd ((hno 0 (Int.le_refl _) h2').1 h3) (pick_zero hv)
      · obtain ⟨y, rfl⟩ := Int.eq_ofNat_of_zero_le a1
        have : 2 ^ t.nL ≤ 2 ^ 6 := Nat.pow_le_pow_right (by omega) hL
        exact (oc_range_dec y (by omega)).1
  · refine .inl ⟨hn, ?_⟩
    unfold TD.clashT
    rw [if_neg (fun h => h hv), if_pos (he.2 hn)]
end Go.Proofs.YtipbempkngfdbaaDoor
/-
  Contracts: dipworksref01.Size, and TideClash's own function: do the looks of a set clash?
-/
namespace Go.Sy
open Go
/-- A contract that wants an empty row, where there is none. -/
theorem CallP.alias {P : Program} {f : FuncId} {args : List SV} {h : SHeap} {i sz0 m0 : Nat} {get0 : Nat → List SV} (hi : h[i]? = some (some (.roa sz0 m0 get0))) {sz : Nat} {get : Nat → List SV} {v : SV}
    (hc : CallP P f args (h ++ [some (.roa sz 0 get)]) (Ret v (h ++ [some (.roa sz 0 get)]))) : CallP P f args h (fun ce h' => ce = .ret v ∧ h' = h ++ [some .dead]) := by
  intro η φ w0 Ef w vs hs hd
  obtain ⟨a, ha⟩ := hs.named i _ hi
  obtain ⟨c, Ty, fz, hh, _⟩ := hs.holds i _ a hi ha
  have hs2 := hs.alias hi ha ⟨c, Ty, fz, hh⟩ rfl rfl sz get
  have le : η.le (fun j => if j = h.length then some a else η j) := fun j b e => by
    have hj : j < h.length := by
      obtain ⟨o1, h1⟩ := hs.dom j b e
      rcases Nat.lt_or_ge j h.length with h2 | h2
      · exact h2
      · rw [List.getElem?_eq_none h2] at h1; cases h1
    show (if j = h.length then some a else η j) = some b
    rw [if_neg (by omega)]
    exact e
  refine (hc _ _ _ _ _ _ hs2 (denL_mono le _ _ hd)).mono ?_
  rintro e w' ⟨ce, h', η', φ', ⟨rfl, rfl⟩, hlen, hp, hr, hs'⟩
  refine ⟨_, _, η', φ', ⟨rfl, rfl⟩, by simp, fun j hj => ?_, hr, ?_⟩
  · rw [hp j (by simp; omega)]
    exact if_neg (by omega)
  · have := hs'.less (i := h.length) (o := .roa sz 0 get) (o' := .dead) (by rw [List.getElem?_append_right (Nat.le_refl _)]; simp) (fun _ _ hb => hb.elim) (fun hr => by cases hr) (fun _ _ => trivial)
    rwa [List.set_append_right _ _ (Nat.le_refl _), Nat.sub_self] at this
end Go.Sy
namespace Go.Proofs.YtipbempkngfdbaaDoor
open Go Go.Sy
set_option linter.unusedSimpArgs false
set_option maxRecDepth 100000
set_option maxHeartbeats 4000000
attribute [local irreducible] CallP CodeP Ent YieldP

theorem t40 (x : Nat) (hx : x < 64) : CallP Tryd.prog 40 [.int .i64 x] [] (Ret (.int .i64 (oc64 x)) []) := by
  refine callR (E := E) E_ok Tryd.func40 rfl ?_
  refine And.intro ?_ ?_
  · (repeat' (first | exact trivial | exact fun _ => rfl | exact rfl | refine And.intro ?_ ?_))
  refine loopP E_ok [2] (fun g : Nat × Int => [(0, .int .i64 g.1), (3, .int .i64 g.2)]) (fun _ H => H) (fun g => g.1 < 64 ∧ 0 ≤ g.2 ∧ g.2 + oc64 g.1 = oc64 x) (fun g => g.1) (x, 0) ⟨hx, Int.le_refl _, by simp⟩ ?_ ?_
  · exact ent_tau [] ⟨by (repeat' (first | exact trivial | exact rfl | exact fun _ _ => rfl | exact Or.inl rfl | refine And.intro ?_ ?_)), by (repeat' (first | exact trivial | exact rfl | exact congrArg (SV.int .i64) (Int.natCast_succ _).symm | refine And.intro ?_ ?_)), rfl⟩
  · rintro ⟨s, n⟩ ⟨hs, hn, he⟩
    simp only at hs hn he
    have hr := oc_range_dec s hs
    have hrx := oc_range_dec x hx
    refine And.intro ?_ (And.intro (fun hc => ?_) (fun hc => ?_))
    · (repeat' (first | exact trivial | exact fun _ => rfl | exact rfl | refine And.intro ?_ ?_))
    · have hs0 : 0 < s := by
        have : (s : Int) > 0 := by simpa using hc
        omega
      have hd := size_dec s hs
      have e1 : ((s : Int)).tmod 2 = ((s % 2 : Nat) : Int) := by rw [Int.tmod_eq_emod_of_nonneg (by omega)]; norm_cast
      have e2 : ((s : Int)).tdiv 2 = ((s / 2 : Nat) : Int) := by rw [Int.tdiv_eq_ediv_of_nonneg (by omega)]; norm_cast
      have hr2 := oc_range_dec (s / 2) (by omega)
      refine And.intro ?_ ⟨(s / 2, n + ((s % 2 : Nat) : Int)), ⟨by simp only; omega, by simp only; omega, by simp only; omega⟩, by simp only; omega, ?_⟩
      · simp only [AllP, under, inR_iff, and_true, true_and, e1, e2]
        (repeat' refine And.intro ?_ ?_) <;> omega
      · refine ent_tau [] ⟨by (repeat' (first | exact trivial | exact rfl | exact fun _ _ => rfl | exact Or.inl rfl | refine And.intro ?_ ?_)), ?_, rfl⟩
        (repeat' (first | exact trivial | exact rfl | exact congrArg (SV.int .i64) e2 | exact congrArg (fun z => SV.int .i64 (n + z)) e1 | refine And.intro ?_ ?_))
    · have hs0 : s = 0 := by
        have : ¬ (s : Int) > 0 := by simpa using hc
        omega
      subst hs0
      rw [show oc64 ((0 : Nat) : Int) = 0 from oc_zero] at he
      refine And.intro ?_ ?_
      · (repeat' (first | exact trivial | exact fun _ => rfl | exact rfl | refine And.intro ?_ ?_))
      refine And.intro ?_ ?_
      · (repeat' (first | exact trivial | exact fun _ => rfl | exact rfl | refine And.intro ?_ ?_))
      refine ent_tau [] ⟨by (repeat' (first | exact trivial | exact rfl | exact fun _ _ => rfl | exact Or.inl rfl | refine And.intro ?_ ?_)), ?_, rfl⟩
      (repeat' (first | exact trivial | exact rfl | exact congrArg (SV.int .i64) (show n = oc64 x by omega) | refine And.intro ?_ ?_))

/-- A tide that is looked at by TideClash. -/
noncomputable def H39 (t : TD) : SHeap := [some (.roa 3 t.nM (row3 t.mi t.mlo t.mhi)), some (.roa 2 t.nS (row2 t.slo t.shi)), some (.roa 4 t.nL (row4 t.lp t.lm t.llo t.lhi)), some (.glob 0 [.int .i64 0, .int .i64 1, .int .i64 3, .int .i64 6, .int .i64 9, .int .i64 11, .int .i64 12]), some db, some (.roc [.osl t.bM 0 3 t.nM t.cM, .osl t.bS 1 2 t.nS t.cS, .osl t.bL 2 4 t.nL t.cL])]
/-- Count, of a tide without looks. -/
theorem t26n (t : TD) : CallP Tryd.prog 26 [.agg [.osl t.bM 0 3 t.nM t.cM, .osl t.bS 1 2 t.nS t.cS, .snil]] [some (.roa 3 t.nM (row3 t.mi t.mlo t.mhi)), some (.roa 2 t.nS (row2 t.slo t.shi)), some (.glob 0 [.int .i64 0, .int .i64 1, .int .i64 3, .int .i64 6, .int .i64 9, .int .i64 11, .int .i64 12]), some db]
    (fun ce h' => ce = .ret (.tup [.int .i64 (t.byL [] false 0).countT.v, .int .i64 (t.byL [] false 0).countT.e]) ∧ h' = [some (.roa 3 t.nM (row3 t.mi t.mlo t.mhi)), some (.roa 2 t.nS (row2 t.slo t.shi)), some (.glob 0 [.int .i64 0, .int .i64 1, .int .i64 3, .int .i64 6, .int .i64 9, .int .i64 11, .int .i64 12]), some db] ++ [some .dead]) := by
  refine CallP.argsD (args' := [.agg [.osl t.bM 0 3 t.nM t.cM, .osl t.bS 1 2 t.nS t.cS, .osl false 4 4 0 0]]) (fun η => by simp [den, denL]) ?_
  refine CallP.alias (i := 0) rfl (sz := 4) (get := row4 (t.byL [] false 0).lp (t.byL [] false 0).lm (t.byL [] false 0).llo (t.byL [] false 0).lhi) ?_
  refine (t26 (t.byL [] false 0)).use [0, 1, 4, 2, 3] ?_ (by (repeat' (first | exact trivial | exact rfl | exact fun _ _ => rfl | exact Or.inl rfl | refine And.intro ?_ ?_))) rfl
  exact ⟨rfl, rfl⟩
def rowsL (t : TD) (L : List Nat) (m : Nat) : List SV := row4 t.lp t.lm t.llo t.lhi (L.getD m 0)
theorem rowsL_app (t : TD) (L : List Nat) (k i : Nat) (hi : i < L.length + 1) {k' : Nat} (ek : k' = k) : selL (decide (i < L.length)) (rowsL t L i) (getOf 4 (row4 t.lp t.lm t.llo t.lhi k') (0 + (i - L.length))) = rowsL t (L ++ [k]) i := by
  subst ek
  unfold rowsL
  rw [List.getD_eq_getElem?_getD, List.getD_eq_getElem?_getD, List.getElem?_append]
  rcases Nat.lt_succ_iff_lt_or_eq.1 hi with h | rfl
  · rw [decide_eq_true h, selL_true, if_pos h]
  · rw [decide_eq_false (Nat.lt_irrefl _), selL_false, Nat.sub_self, if_neg (Nat.lt_irrefl _)]
    rfl
theorem byL_count {t : TD} (hv : t.Valid) {L : List Nat} (b : Bool) (c : Nat) (hl : L.length ≤ t.nL) (hm : ∀ i ∈ L, i < t.nL) : (t.byL L b c).countT = ⟨((t.truL L).length : Int), 0⟩ := by
  rw [count_tru (byL_valid hv b c hl hm), byL_tru]
open Classical in
theorem fin39 (t : TD) {L L' : List Nat} (h : L = L') : (bif decide ((0 : Int) = 0) then decide (((t.truL L).length : Int) = 0) else false) = decide (t.truL L' = []) := by
  subst h
  rw [Bool.eq_iff_iff]
  simp only [decide_true, cond_true, decide_eq_true_eq]
  constructor
  · intro h
    exact List.eq_nil_of_length_eq_zero (by omega)
  · intro h
    rw [h]
    rfl
open Classical in
theorem t39 (t : TD) (hv : t.Valid) (so : Int) : CallP Tryd.prog 39 [.int .i64 so, .ptr 5 0] (H39 t) (Ret (.bool (decide (t.truL (pickL so t.nL) = []))) (H39 t)) := by
  have hL := hv.2.2.1
  have c26n := t26n t
  rw [byL_count hv false 0 (Nat.zero_le _) (fun i hi => by simp at hi)] at c26n
  refine callR (E := E) E_ok Tryd.func39 rfl ?_
  refine And.intro ?_ ?_
  · (repeat' (first | exact trivial | exact fun _ => rfl | exact rfl | refine And.intro ?_ ?_))
  refine loopP E_ok [0, 1, 3, 4, 12, 13] (fun g : Bool × Nat × List Nat × Nat => [(14, .int .i64 g.2.1)]) (fun g H => match g.1 with | false => H | true => (H.set 6 (some (.cells [.osl t.bM 0 3 t.nM t.cM, .osl t.bS 1 2 t.nS t.cS, .slice 7 4 0 g.2.2.1.length g.2.2.2]))) ++ [some (.arr 4 g.2.2.1.length g.2.2.2 (rowsL t g.2.2.1))])
    (fun g => g.2.1 ≤ t.nL ∧ g.2.2.1 = pickL so g.2.1 ∧ g.1 = decide (0 < g.2.2.1.length) ∧ (g.1 = true → g.2.2.1.length ≤ g.2.2.2 ∧ g.2.2.2 ≤ 9223372036854775807)) (fun g => t.nL - g.2.1) (false, 0, [], 0) ⟨Nat.zero_le _, rfl, rfl, fun h => by cases h⟩ ?_ ?_
  · exact ent_tau [0, 1, 2, 3, 4, 5, 6] ⟨by (repeat' (first | exact trivial | exact rfl | exact fun _ _ => rfl | exact Or.inl rfl | refine And.intro ?_ ?_)), by (repeat' (first | exact trivial | exact rfl | exact congrArg (SV.int .i64) (Int.natCast_succ _).symm | refine And.intro ?_ ?_)), rfl⟩
  · rintro ⟨b, k, L, cp⟩ ⟨hk, hLk, hb, hcp⟩
    simp only at hk hLk hb hcp
    have hlen := pickL_len so k
    rw [← hLk] at hlen
    have ek : 0 + ((k : Int)).toNat = k := by omega
    cases b with
    | false =>
      have hn : L = [] := by
        have : ¬ 0 < L.length := by simpa using hb
        exact List.eq_nil_of_length_eq_zero (by omega)
      subst hn
      refine And.intro ?_ (And.intro (fun hc => ?_) (fun hc => ?_))
      · (repeat' (first | exact trivial | exact fun _ => rfl | exact rfl | refine And.intro ?_ ?_))
      · have hk' : k < t.nL := by simpa using hc
        refine And.intro ?_ (And.intro (fun hbt => ?_) (fun hbt => ?_))
        · simp [AllP, under, gB, wB, inR_iff, IntKind.bits]
          omega
        · have hbt' : bitI so k = true := hbt
          refine And.intro ?_ ?_
          · exact ⟨by decide, by decide, by decide, trivial⟩
          intro c hc1 hc2
          have hc1' : 1 ≤ c := hc1
          refine And.intro ?_ ⟨(true, k + 1, [k], c), ⟨hk', by show [k] = pickL so (k + 1); rw [pickL, if_pos hbt', ← hLk]; rfl, rfl, fun _ => ⟨hc1', hc2⟩⟩, by show t.nL - (k + 1) < t.nL - k; omega, ?_⟩
          · simp [AllP, under, gB, wB, inR_iff, IntKind.bits]
            omega
          · refine ent_tau [0, 1, 2, 3, 4, 5, 6, 9] ⟨?_, by (repeat' (first | exact trivial | exact rfl | exact congrArg (SV.int .i64) (Int.natCast_succ _).symm | refine And.intro ?_ ?_)), rfl⟩
            (repeat' (first | exact trivial | exact rfl | exact fun _ _ => rfl | exact Or.inl rfl | refine And.intro ?_ ?_))
            intro i hi
            have : i = 0 := Nat.lt_one_iff.1 hi
            subst this
            show row4 t.lp t.lm t.llo t.lhi (0 + ((k : Int)).toNat) = _
            rw [ek]
            rfl
        · have hbt' : ¬ bitI so k = true := fun h => by rw [show bitI so k = false from hbt] at h; cases h
          refine And.intro ?_ ⟨(false, k + 1, [], cp), ⟨hk', by show [] = pickL so (k + 1); rw [pickL, if_neg hbt', ← hLk], rfl, fun h => by cases h⟩, by show t.nL - (k + 1) < t.nL - k; omega, ?_⟩
          · simp [AllP, under, gB, wB, inR_iff, IntKind.bits]
            omega
          · exact ent_tau [0, 1, 2, 3, 4, 5, 6] ⟨by (repeat' (first | exact trivial | exact rfl | exact fun _ _ => rfl | exact Or.inl rfl | refine And.intro ?_ ?_)), by (repeat' (first | exact trivial | exact rfl | exact congrArg (SV.int .i64) (Int.natCast_succ _).symm | refine And.intro ?_ ?_)), rfl⟩
      · have hk' : k = t.nL := by
          have : ¬ k < t.nL := by simpa using hc
          omega
        subst hk'
        refine And.intro ?_ ?_
        · (repeat' (first | exact trivial | exact fun _ => rfl | exact rfl | refine And.intro ?_ ?_))
        refine And.intro ?_ ?_
        · (repeat' (first | exact trivial | exact fun _ => rfl | exact rfl | refine And.intro ?_ ?_))
        refine CallP.frameH c26n [0, 1, 3, 4] (by (repeat' (first | exact trivial | exact rfl | exact fun _ _ => rfl | exact Or.inl rfl | refine And.intro ?_ ?_))) rfl ?_
        rintro ce h' ⟨rfl, rfl⟩
        refine ⟨rfl, ?_⟩
        refine And.intro ?_ ?_
        · (repeat' (first | exact trivial | exact fun _ => rfl | exact rfl | refine And.intro ?_ ?_))
        refine ent_tau [0, 1, 2, 3, 4, 5] ⟨by (repeat' (first | exact trivial | exact rfl | exact fun _ _ => rfl | exact Or.inl rfl | refine And.intro ?_ ?_)), ?_, rfl⟩
        (repeat' (first | exact trivial | exact rfl | exact congrArg SV.bool (fin39 t hLk) | refine And.intro ?_ ?_))
    | true =>
      have hL0 : 0 < L.length := by simpa using hb
      obtain ⟨hcp1, hcp2⟩ := hcp rfl
      refine And.intro ?_ (And.intro (fun hc => ?_) (fun hc => ?_))
      · (repeat' (first | exact trivial | exact fun _ => rfl | exact rfl | refine And.intro ?_ ?_))
      · have hk' : k < t.nL := by simpa using hc
        refine And.intro ?_ (And.intro (fun hbt => ?_) (fun hbt => ?_))
        · simp [AllP, under, gB, wB, inR_iff, IntKind.bits]
          omega
        · have hbt' : bitI so k = true := hbt
          refine And.intro ?_ ?_
          · refine ⟨Nat.le_refl _, Nat.le_refl _, by decide, ?_, ?_, hcp2, trivial⟩
            · show (L.length + 1) * 32 ≤ 140737488355328
              omega
            · intro i hi
              have : i = 0 := Nat.lt_one_iff.1 hi
              subst this
              rfl
          intro c hc1 hc2
          have hc1' : L.length + 1 ≤ c := hc1
          have hl2 : L.length + 1 = (L ++ [k]).length := by rw [List.length_append]; rfl
          refine And.intro ?_ ⟨(true, k + 1, L ++ [k], c), ⟨hk', by show L ++ [k] = pickL so (k + 1); rw [pickL, if_pos hbt', ← hLk], by show true = decide (0 < (L ++ [k]).length); rw [← hl2]; simp, fun _ => ⟨by show (L ++ [k]).length ≤ c; rw [← hl2]; exact hc1', hc2⟩⟩, by show t.nL - (k + 1) < t.nL - k; omega, ?_⟩
          · simp [AllP, under, gB, wB, inR_iff, IntKind.bits]
            omega
          · refine ent_tau [0, 1, 2, 3, 4, 5, 6, 10] ⟨?_, by (repeat' (first | exact trivial | exact rfl | exact congrArg (SV.int .i64) (Int.natCast_succ _).symm | refine And.intro ?_ ?_)), rfl⟩
            (repeat' (first | exact trivial | exact rfl | exact fun _ _ => rfl | exact Or.inl rfl | refine And.intro ?_ ?_))
            · exact congrArg (fun n => [SV.osl t.bM 0 3 t.nM t.cM, .osl t.bS 1 2 t.nS t.cS, .slice 10 4 0 n c]) hl2
            · exact hl2
            · intro i hi
              have hi2 : i < L.length + 1 := hi
              show selL (decide (i < L.length)) (rowsL t L i) (getOf 4 (row4 t.lp t.lm t.llo t.lhi (0 + ((k : Int)).toNat)) (0 + (i - L.length))) = rowsL t (L ++ [k]) i
              exact rowsL_app t L k i hi2 ek
        · have hbt' : ¬ bitI so k = true := fun h => by rw [show bitI so k = false from hbt] at h; cases h
          refine And.intro ?_ ⟨(true, k + 1, L, cp), ⟨hk', by show L = pickL so (k + 1); rw [pickL, if_neg hbt', ← hLk], hb, fun _ => ⟨hcp1, hcp2⟩⟩, by show t.nL - (k + 1) < t.nL - k; omega, ?_⟩
          · simp [AllP, under, gB, wB, inR_iff, IntKind.bits]
            omega
          · exact ent_tau [0, 1, 2, 3, 4, 5, 6, 7] ⟨by (repeat' (first | exact trivial | exact rfl | exact fun _ _ => rfl | exact Or.inl rfl | refine And.intro ?_ ?_)), by (repeat' (first | exact trivial | exact rfl | exact congrArg (SV.int .i64) (Int.natCast_succ _).symm | refine And.intro ?_ ?_)), rfl⟩
      · have hk' : k = t.nL := by
          have : ¬ k < t.nL := by simpa using hc
          omega
        subst hk'
        have c26 := t26 (t.byL L true cp)
        rw [byL_count hv true cp hlen (fun i hi => by rw [hLk] at hi; exact (pickL_mem.1 hi).1)] at c26
        refine And.intro ?_ ?_
        · (repeat' (first | exact trivial | exact fun _ => rfl | exact rfl | refine And.intro ?_ ?_))
        refine And.intro ?_ ?_
        · (repeat' (first | exact trivial | exact fun _ => rfl | exact rfl | refine And.intro ?_ ?_))
        refine CallP.argsD (args' := [.agg [.osl t.bM 0 3 t.nM t.cM, .osl t.bS 1 2 t.nS t.cS, .osl true 7 4 L.length cp]]) (fun η => by simp [den, denL]) ?_
        refine (c26).use [0, 1, 7, 3, 4] ?_ (by (repeat' (first | exact trivial | exact rfl | exact fun _ _ => rfl | exact Or.inl rfl | refine And.intro ?_ ?_))) rfl
        refine And.intro ?_ ?_
        · (repeat' (first | exact trivial | exact fun _ => rfl | exact rfl | refine And.intro ?_ ?_))
        refine ent_tau [0, 1, 2, 3, 4, 5] ⟨by (repeat' (first | exact trivial | exact rfl | exact fun _ _ => rfl | exact Or.inl rfl | refine And.intro ?_ ?_)), ?_, rfl⟩
        (repeat' (first | exact trivial | exact rfl | exact congrArg SV.bool (fin39 t hLk) | refine And.intro ?_ ?_))
end Go.Proofs.YtipbempkngfdbaaDoor
/-
  Contract: dipworkslaw01.TideClash.
-/
namespace Go.Proofs.YtipbempkngfdbaaDoor
open Go Go.Sy
set_option linter.unusedSimpArgs false
set_option maxRecDepth 100000
set_option maxHeartbeats 4000000
attribute [local irreducible] CallP CodeP Ent YieldP

theorem t11 (t : TD) (ht : t.ok) (b : Int) (hb : 0 ≤ b ∧ b ≤ 255) : CallP Tryd.prog 11 [t.A, .int .u8 b] t.HG (Ret (.bool true) t.HG) := by
  refine callR (E := E) E_ok Tryd.func11 rfl ?_
  refine And.intro ?_ ?_
  · simp [AllP, under, gB, wB, inR_iff, IntKind.bits]
  refine (t33 t).use [0, 1, 2] ?_ (by (repeat' (first | exact trivial | exact rfl | exact fun _ _ => rfl | exact Or.inl rfl | refine And.intro ?_ ?_))) rfl
  refine And.intro ?_ (And.intro (fun hl => ?_) (fun hl => ?_))
  · simp [AllP, under, gB, wB, inR_iff, IntKind.bits]
  · refine And.intro trivial ?_
    refine (t14).use [3, 4] ?_ (by (repeat' (first | exact trivial | exact rfl | exact fun _ _ => rfl | exact Or.inl rfl | refine And.intro ?_ ?_))) rfl
    refine And.intro trivial ?_
    exact ent_tau [0, 1, 2, 3, 4] ⟨by (repeat' (first | exact trivial | exact rfl | exact fun _ _ => rfl | exact Or.inl rfl | refine And.intro ?_ ?_)), by (repeat' (first | exact trivial | exact rfl | exact congrArg (SV.int .i64) (Int.natCast_succ _).symm | refine And.intro ?_ ?_)), rfl⟩
  · refine And.intro ?_ ?_
    · (repeat' (first | exact trivial | exact fun _ => rfl | exact rfl | refine And.intro ?_ ?_))
    by_cases hv : t.Valid
    · have hL := hv.2.2.1
      have eN : 1 * (2 : Int) ^ ((t.nL : Int)).toNat = 2 ^ t.nL := by rw [Int.toNat_natCast, Int.one_mul]
      have p1 : (1 : Int) ≤ 2 ^ t.nL := by
        have : 0 < 2 ^ t.nL := Nat.pow_pos (by omega)
        have : ((2 ^ t.nL : Nat) : Int) = 2 ^ t.nL := by norm_cast
        omega
      have p64 : (2 : Int) ^ t.nL ≤ 64 := by
        have : 2 ^ t.nL ≤ 2 ^ 6 := Nat.pow_le_pow_right (by omega) hL
        have : ((2 ^ t.nL : Nat) : Int) = 2 ^ t.nL := by norm_cast
        omega
      have hcount := count_tru hv
      have c26 := t26 t
      rw [hcount] at c26
      have c20 := t20 t
      have c34 := t34 t ht
      rw [show t.valid = true by simp [TD.valid, hv]] at c34
      rcases clash_law hv with ⟨hn, eC⟩ | ⟨v, hn, eC, hv1, hv2, hv3, hmin⟩
      · rw [eC] at c20
        refine (c20).use [0, 1, 2, 3, 4] ?_ (by (repeat' (first | exact trivial | exact rfl | exact fun _ _ => rfl | exact Or.inl rfl | refine And.intro ?_ ?_))) rfl
        refine And.intro ?_ ?_
        · (repeat' (first | exact trivial | exact fun _ => rfl | exact rfl | refine And.intro ?_ ?_))
        refine (c26).use [0, 1, 2, 3, 4] ?_ (by (repeat' (first | exact trivial | exact rfl | exact fun _ _ => rfl | exact Or.inl rfl | refine And.intro ?_ ?_))) rfl
        refine And.intro ?_ ?_
        · (repeat' (first | exact trivial | exact fun _ => rfl | exact rfl | refine And.intro ?_ ?_))
        refine (c34).use [0, 1, 2] ?_ (by (repeat' (first | exact trivial | exact rfl | exact fun _ _ => rfl | exact Or.inl rfl | refine And.intro ?_ ?_))) rfl
        refine And.intro ?_ (And.intro (fun h => absurd h (by decide)) (fun h => ?_))
        · (repeat' (first | exact trivial | exact fun _ => rfl | exact rfl | refine And.intro ?_ ?_))
        have hl0 : ¬ ((t.tru.length : Int) = 0) := fun e => hn (List.eq_nil_of_length_eq_zero (by omega))
        refine And.intro ?_ (And.intro (fun h => ?_) (fun h => ?_))
        · (repeat' (first | exact True.intro | exact d1 _ | exact d1t _ | exact d2 _ | exact d3 _ _ | exact d3f _ _ | exact fun _ _ => rfl | exact fun _ => rfl | exact rfl | refine And.intro ?_ ?_))
          all_goals first | exact un (show (t.nL : Int) < 64 by omega) | exact un (by omega) | (rw [eN]; omega)
        · exfalso
          simp [hn] at h
        refine And.intro ?_ (And.intro (fun h => ?_) (fun h => absurd h (by decide)))
        · (repeat' (first | exact trivial | exact fun _ => rfl | exact rfl | refine And.intro ?_ ?_))
        refine And.intro trivial ?_
        refine (t14).use [3, 4] ?_ (by (repeat' (first | exact trivial | exact rfl | exact fun _ _ => rfl | exact Or.inl rfl | refine And.intro ?_ ?_))) rfl
        refine And.intro ?_ ?_
        · (repeat' (first | exact trivial | exact fun _ => rfl | exact rfl | refine And.intro ?_ ?_))
        exact ent_tau [0, 1, 2, 3, 4] ⟨by (repeat' (first | exact trivial | exact rfl | exact fun _ _ => rfl | exact Or.inl rfl | refine And.intro ?_ ?_)), by (repeat' (first | exact trivial | exact rfl | exact congrArg (SV.int .i64) (Int.natCast_succ _).symm | refine And.intro ?_ ?_)), rfl⟩
      · rw [eC] at c20
        refine (c20).use [0, 1, 2, 3, 4] ?_ (by (repeat' (first | exact trivial | exact rfl | exact fun _ _ => rfl | exact Or.inl rfl | refine And.intro ?_ ?_))) rfl
        refine And.intro ?_ ?_
        · (repeat' (first | exact trivial | exact fun _ => rfl | exact rfl | refine And.intro ?_ ?_))
        refine (c26).use [0, 1, 2, 3, 4] ?_ (by (repeat' (first | exact trivial | exact rfl | exact fun _ _ => rfl | exact Or.inl rfl | refine And.intro ?_ ?_))) rfl
        refine And.intro ?_ ?_
        · (repeat' (first | exact trivial | exact fun _ => rfl | exact rfl | refine And.intro ?_ ?_))
        refine (c34).use [0, 1, 2] ?_ (by (repeat' (first | exact trivial | exact rfl | exact fun _ _ => rfl | exact Or.inl rfl | refine And.intro ?_ ?_))) rfl
        refine And.intro ?_ (And.intro (fun h => absurd h (by decide)) (fun h => ?_))
        · (repeat' (first | exact trivial | exact fun _ => rfl | exact rfl | refine And.intro ?_ ?_))
        refine And.intro ?_ (And.intro (fun h => ?_) (fun h => ?_))
        · (repeat' (first | exact True.intro | exact d1 _ | exact d1t _ | exact d2 _ | exact d3 _ _ | exact d3f _ _ | exact fun _ _ => rfl | exact fun _ => rfl | exact rfl | refine And.intro ?_ ?_))
          all_goals first | exact un (show (t.nL : Int) < 64 by omega) | exact un (by omega) | (rw [eN]; omega)
        · exfalso
          simp [hn] at h
        refine And.intro ?_ (And.intro (fun h => absurd h (by simp)) (fun h => ?_))
        · (repeat' (first | exact trivial | exact fun _ => rfl | exact rfl | refine And.intro ?_ ?_))
        have hv5 : ¬ v < 1 := by omega
        have hv6 : ¬ v > 1 * 2 ^ ((t.nL : Int)).toNat - 1 := by rw [eN]; omega
        have c39 := t39 t hv v
        rw [decide_eq_true hv3] at c39
        refine And.intro ?_ (And.intro (fun hg => ?_) (fun hg => ?_))
        · (repeat' (first | exact True.intro | exact d1 _ | exact d1t _ | exact d2 _ | exact d3 _ _ | exact d3f _ _ | exact fun _ _ => rfl | exact fun _ => rfl | exact rfl | refine And.intro ?_ ?_))
        rotate_left
        · exfalso
          simp [gB, wB, hv5, hv6] at hg
          omega
        refine (c39).use [0, 1, 2, 3, 4, 5] ?_ (by (repeat' (first | exact trivial | exact rfl | exact fun _ _ => rfl | exact Or.inl rfl | refine And.intro ?_ ?_))) rfl
        refine And.intro ?_ (And.intro (fun h => ?_) (fun h => ?_))
        · (repeat' (first | exact True.intro | exact d1 _ | exact d1t _ | exact d2 _ | exact d3 _ _ | exact d3f _ _ | exact fun _ _ => rfl | exact fun _ => rfl | exact rfl | refine And.intro ?_ ?_))
        · exfalso
          simp [hv5, hv6] at h
          omega
        refine And.intro ?_ ?_
        · (repeat' (first | exact trivial | exact fun _ => rfl | exact rfl | refine And.intro ?_ ?_))
        obtain ⟨vn, hvn⟩ := Int.eq_ofNat_of_zero_le (show 0 ≤ v by omega)
        have hvn2 : vn < 2 ^ t.nL := by
          have : ((2 ^ t.nL : Nat) : Int) = 2 ^ t.nL := by norm_cast
          omega
        have hvn3 : vn < 64 := by omega
        refine loopP E_ok [1, 2, 4, 5, 6, 7, 8, 9, 10, 93] (fun k : Nat => [(94, .int .i64 k)]) (fun _ H => H) (fun k => k ≤ t.nL) (fun k => t.nL - k) 0 (Nat.zero_le _) ?_ ?_
        · exact ent_tau [0, 1, 2, 3, 4, 5] ⟨by (repeat' (first | exact trivial | exact rfl | exact fun _ _ => rfl | exact Or.inl rfl | refine And.intro ?_ ?_)), by (repeat' (first | exact trivial | exact rfl | exact congrArg (SV.int .i64) (Int.natCast_succ _).symm | refine And.intro ?_ ?_)), rfl⟩
        · intro k hk
          refine And.intro ?_ (And.intro (fun hc => ?_) (fun hc => ?_))
          · (repeat' (first | exact trivial | exact fun _ => rfl | exact rfl | refine And.intro ?_ ?_))
          · have hk' : k < t.nL := by simpa using hc
            have pk : 0 ≤ 1 * (2 : Int) ^ ((k : Int)).toNat ∧ 1 * (2 : Int) ^ ((k : Int)).toNat ≤ 64 := by
              obtain ⟨P, hP⟩ : ∃ P : Nat, P = 2 ^ k := ⟨_, rfl⟩
              have h1 : P ≤ 2 ^ 6 := hP ▸ Nat.pow_le_pow_right (by omega) (by omega)
              have h2 : 1 * (2 : Int) ^ ((k : Int)).toNat = (P : Int) := by rw [hP, Int.toNat_natCast, Int.one_mul]; norm_cast
              rw [h2]
              omega
            refine And.intro ?_ (And.intro (fun hg => ?_) (fun hg => ?_))
            · (repeat' (first | exact True.intro | exact d1 _ | exact d1t _ | exact d2 _ | exact d3 _ _ | exact d3f _ _ | exact fun _ _ => rfl | exact fun _ => rfl | exact rfl | refine And.intro ?_ ?_))
              all_goals first | exact d4 ((inR_iff _).2 ⟨by omega, by omega⟩) | exact d4 (show (k : Int) < 64 by omega) | exact un (show (k : Int) < 64 by omega) | exact d4 (by omega) | exact un (by omega)
            · have hbk : bitI v k = true := hg
              have hx : ¬ t.truL (pickL (bitOp .andNot .i64 v (1 * 2 ^ ((k : Int)).toNat)) t.nL) = [] := fun hx => by
                obtain ⟨l1, l2⟩ := less_dec1 t.nL (by omega) vn hvn2 k hk'
                rw [hvn] at hbk
                have l3 := less_dec2 vn (by omega) k (by omega) hbk
                have l4 : ((k : Int)).toNat = k := Int.toNat_natCast k
                rw [l4, hvn] at hx
                have := hmin _ l1 l2 hx
                rw [hvn] at this
                omega
              have c39x := t39 t hv (bitOp .andNot .i64 v (1 * 2 ^ ((k : Int)).toNat))
              rw [decide_eq_false hx] at c39x
              refine (c39x).use [0, 1, 2, 3, 4, 5] ?_ (by (repeat' (first | exact trivial | exact rfl | exact fun _ _ => rfl | exact Or.inl rfl | refine And.intro ?_ ?_))) rfl
              refine And.intro ?_ (And.intro (fun h => ?_) (fun h => ?_))
              · (repeat' (first | exact True.intro | exact d1 _ | exact d1t _ | exact d2 _ | exact d3 _ _ | exact d3f _ _ | exact fun _ _ => rfl | exact fun _ => rfl | exact rfl | refine And.intro ?_ ?_))
              · exfalso
                simp at h
              refine And.intro ?_ ⟨k + 1, hk', by omega, ?_⟩
              · simp [AllP, under, gB, wB, inR_iff, IntKind.bits]
                omega
              · exact ent_tau [0, 1, 2, 3, 4, 5] ⟨by (repeat' (first | exact trivial | exact rfl | exact fun _ _ => rfl | exact Or.inl rfl | refine And.intro ?_ ?_)), by (repeat' (first | exact trivial | exact rfl | exact congrArg (SV.int .i64) (Int.natCast_succ _).symm | refine And.intro ?_ ?_)), rfl⟩
            · refine And.intro ?_ (And.intro (fun h => ?_) (fun h => ?_))
              · (repeat' (first | exact True.intro | exact d1 _ | exact d1t _ | exact d2 _ | exact d3 _ _ | exact d3f _ _ | exact fun _ _ => rfl | exact fun _ => rfl | exact rfl | refine And.intro ?_ ?_))
                all_goals exact un (fun h => absurd (h.symm.trans hg) (by decide))
              · exfalso
                simp at h
              refine And.intro ?_ ⟨k + 1, hk', by omega, ?_⟩
              · simp [AllP, under, gB, wB, inR_iff, IntKind.bits]
                omega
              · exact ent_tau [0, 1, 2, 3, 4, 5] ⟨by (repeat' (first | exact trivial | exact rfl | exact fun _ _ => rfl | exact Or.inl rfl | refine And.intro ?_ ?_)), by (repeat' (first | exact trivial | exact rfl | exact congrArg (SV.int .i64) (Int.natCast_succ _).symm | refine And.intro ?_ ?_)), rfl⟩
          · refine And.intro ?_ ?_
            · (repeat' (first | exact trivial | exact fun _ => rfl | exact rfl | refine And.intro ?_ ?_))
            have c39o := t39 t hv (bitOp .and .i64 b (1 * 2 ^ ((t.nL : Int)).toNat - 1))
            obtain ⟨bn, hbn⟩ := Int.eq_ofNat_of_zero_le hb.1
            obtain ⟨w1, w2⟩ := own_dec t.nL (by omega) bn (by omega)
            rw [← hbn] at w1 w2
            have eNn : (((t.nL : Int)).toNat) = t.nL := Int.toNat_natCast t.nL
            rw [← eNn] at w1 w2
            have w2' : bitOp .and .i64 b (1 * 2 ^ ((t.nL : Int)).toNat - 1) < 2 ^ t.nL := by rw [eNn] at w2 ⊢; exact w2
            by_cases hO : t.truL (pickL (bitOp .and .i64 b (1 * 2 ^ ((t.nL : Int)).toNat - 1)) t.nL) = []
            · obtain ⟨on, hon⟩ := Int.eq_ofNat_of_zero_le w1
              have hon2 : on < 64 := by omega
              have cO := t40 on hon2
              have cV := t40 vn hvn3
              rw [← hon] at cO
              rw [← hvn] at cV
              have hm := hmin _ w1 w2' hO
              rw [decide_eq_true hO] at c39o
              refine And.intro ?_ ?_
              · (repeat' (first | exact trivial | exact fun _ => rfl | exact rfl | refine And.intro ?_ ?_))
                all_goals omega
              refine (c39o).use [0, 1, 2, 3, 4, 5] ?_ (by (repeat' (first | exact trivial | exact rfl | exact fun _ _ => rfl | exact Or.inl rfl | refine And.intro ?_ ?_))) rfl
              refine And.intro ?_ (And.intro (fun hg => ?_) (fun hg => absurd hg (by decide)))
              · (repeat' (first | exact True.intro | exact d1 _ | exact d1t _ | exact d2 _ | exact d3 _ _ | exact d3f _ _ | exact fun _ _ => rfl | exact fun _ => rfl | exact rfl | refine And.intro ?_ ?_))
              refine (cO).use [] ?_ (by (repeat' (first | exact trivial | exact rfl | exact fun _ _ => rfl | exact Or.inl rfl | refine And.intro ?_ ?_))) rfl
              refine And.intro ?_ (And.intro (fun hg => ?_) (fun hg => absurd hg (by decide)))
              · (repeat' (first | exact True.intro | exact d1 _ | exact d1t _ | exact d2 _ | exact d3 _ _ | exact d3f _ _ | exact fun _ _ => rfl | exact fun _ => rfl | exact rfl | refine And.intro ?_ ?_))
              refine (cV).use [] ?_ (by (repeat' (first | exact trivial | exact rfl | exact fun _ _ => rfl | exact Or.inl rfl | refine And.intro ?_ ?_))) rfl
              rcases hm with hm | ⟨hm1, hm2⟩
              · have hgt : oc64 (bitOp .and .i64 b (1 * 2 ^ ((t.nL : Int)).toNat - 1)) > oc64 v := hm
                have hX := decide_eq_true hgt
                have hF : (bif bif !true then true else decide (oc64 (bitOp .and .i64 b (1 * 2 ^ ((t.nL : Int)).toNat - 1)) > oc64 v) then true else bif decide ((0 : Int) = 0) then decide ((bitOp .and .i64 b (1 * 2 ^ ((t.nL : Int)).toNat - 1)) ≥ v) else false) = true := by rw [hX]; rfl
                refine And.intro ?_ (And.intro (fun hg => ?_) (fun hg => ?_))
                · (repeat' (first | exact True.intro | exact d1 _ | exact d1t _ | exact d2 _ | exact d3 _ _ | exact d3f _ _ | exact fun _ _ => rfl | exact fun _ => rfl | exact rfl | refine And.intro ?_ ?_))
                · exfalso
                  rw [hX] at hg
                  exact absurd hg (by decide)
                refine And.intro ?_ (And.intro (fun hg => ?_) (fun hg => ?_))
                · (repeat' (first | exact True.intro | exact d1 _ | exact d1t _ | exact d2 _ | exact d3 _ _ | exact d3f _ _ | exact fun _ _ => rfl | exact fun _ => rfl | exact rfl | refine And.intro ?_ ?_))
                · exfalso
                  rw [hX] at hg
                  exact absurd hg (by decide)
                refine And.intro ?_ (And.intro (fun hg => ?_) (fun hg => ?_))
                · rw [hX]
                  (repeat' (first | exact True.intro | exact d1 _ | exact d1t _ | exact d2 _ | exact d3 _ _ | exact d3f _ _ | exact fun _ _ => rfl | exact fun _ => rfl | exact rfl | refine And.intro ?_ ?_))
                · refine (t14).use [3, 4] ?_ (by (repeat' (first | exact trivial | exact rfl | exact fun _ _ => rfl | exact Or.inl rfl | refine And.intro ?_ ?_))) rfl
                  refine And.intro ?_ ?_
                  · (repeat' (first | exact True.intro | exact d1 _ | exact d1t _ | exact d2 _ | exact d3 _ _ | exact d3f _ _ | exact fun _ _ => rfl | exact fun _ => rfl | exact rfl | refine And.intro ?_ ?_))
                  refine ent_tau [0, 1, 2, 3, 4] ⟨by (repeat' (first | exact trivial | exact rfl | exact fun _ _ => rfl | exact Or.inl rfl | refine And.intro ?_ ?_)), ?_, rfl⟩
                  (repeat' (first | exact trivial | exact rfl | exact fun _ _ => rfl | exact Or.inl rfl | refine And.intro ?_ ?_))
                  exact congrArg (fun z => SV.bool (bif z then true else false)) hF
                · exact absurd (hF.symm.trans hg) (by decide)
              · have hgt : ¬ oc64 (bitOp .and .i64 b (1 * 2 ^ ((t.nL : Int)).toNat - 1)) > oc64 v := by omega
                have hX := decide_eq_false hgt
                have hY := decide_eq_true hm1.symm
                have hF : (bif bif !true then true else decide (oc64 (bitOp .and .i64 b (1 * 2 ^ ((t.nL : Int)).toNat - 1)) > oc64 v) then true else bif decide (oc64 (bitOp .and .i64 b (1 * 2 ^ ((t.nL : Int)).toNat - 1)) = oc64 v) then decide ((bitOp .and .i64 b (1 * 2 ^ ((t.nL : Int)).toNat - 1)) ≥ v) else false) = true := by rw [hX, hY]; exact decide_eq_true hm2
                refine And.intro ?_ (And.intro (fun hg => ?_) (fun hg => ?_))
                · (repeat' (first | exact True.intro | exact d1 _ | exact d1t _ | exact d2 _ | exact d3 _ _ | exact d3f _ _ | exact fun _ _ => rfl | exact fun _ => rfl | exact rfl | refine And.intro ?_ ?_))
                rotate_left
                · exfalso
                  rw [hX] at hg
                  exact absurd hg (by decide)
                refine (cO).use [] ?_ (by (repeat' (first | exact trivial | exact rfl | exact fun _ _ => rfl | exact Or.inl rfl | refine And.intro ?_ ?_))) rfl
                refine And.intro ?_ (And.intro (fun hg => ?_) (fun hg => ?_))
                · (repeat' (first | exact True.intro | exact d1 _ | exact d1t _ | exact d2 _ | exact d3 _ _ | exact d3f _ _ | exact fun _ _ => rfl | exact fun _ => rfl | exact rfl | refine And.intro ?_ ?_))
                rotate_left
                · exfalso
                  rw [hX] at hg
                  exact absurd hg (by decide)
                refine (cV).use [] ?_ (by (repeat' (first | exact trivial | exact rfl | exact fun _ _ => rfl | exact Or.inl rfl | refine And.intro ?_ ?_))) rfl
                refine And.intro ?_ (And.intro (fun hg => ?_) (fun hg => ?_))
                · rw [hX]
                  (repeat' (first | exact True.intro | exact d1 _ | exact d1t _ | exact d2 _ | exact d3 _ _ | exact d3f _ _ | exact fun _ _ => rfl | exact fun _ => rfl | exact rfl | refine And.intro ?_ ?_))
                · refine (t14).use [3, 4] ?_ (by (repeat' (first | exact trivial | exact rfl | exact fun _ _ => rfl | exact Or.inl rfl | refine And.intro ?_ ?_))) rfl
                  refine And.intro ?_ ?_
                  · (repeat' (first | exact True.intro | exact d1 _ | exact d1t _ | exact d2 _ | exact d3 _ _ | exact d3f _ _ | exact fun _ _ => rfl | exact fun _ => rfl | exact rfl | refine And.intro ?_ ?_))
                  refine ent_tau [0, 1, 2, 3, 4] ⟨by (repeat' (first | exact trivial | exact rfl | exact fun _ _ => rfl | exact Or.inl rfl | refine And.intro ?_ ?_)), ?_, rfl⟩
                  (repeat' (first | exact trivial | exact rfl | exact fun _ _ => rfl | exact Or.inl rfl | refine And.intro ?_ ?_))
                  exact congrArg (fun z => SV.bool (bif z then true else false)) hF
                · exact absurd (hF.symm.trans hg) (by decide)
            · rw [decide_eq_false hO] at c39o
              refine And.intro ?_ ?_
              · (repeat' (first | exact trivial | exact fun _ => rfl | exact rfl | refine And.intro ?_ ?_))
                all_goals omega
              refine (c39o).use [0, 1, 2, 3, 4, 5] ?_ (by (repeat' (first | exact trivial | exact rfl | exact fun _ _ => rfl | exact Or.inl rfl | refine And.intro ?_ ?_))) rfl
              refine And.intro ?_ (And.intro (fun hg => absurd hg (by decide)) (fun hg => ?_))
              · (repeat' (first | exact True.intro | exact d1 _ | exact d1t _ | exact d2 _ | exact d3 _ _ | exact d3f _ _ | exact fun _ _ => rfl | exact fun _ => rfl | exact rfl | refine And.intro ?_ ?_))
              refine And.intro ?_ (And.intro (fun hg => absurd hg (by decide)) (fun hg => ?_))
              · (repeat' (first | exact True.intro | exact d1 _ | exact d1t _ | exact d2 _ | exact d3 _ _ | exact d3f _ _ | exact fun _ _ => rfl | exact fun _ => rfl | exact rfl | refine And.intro ?_ ?_))
              refine And.intro ?_ (And.intro (fun hg => absurd hg (by decide)) (fun hg => ?_))
              · (repeat' (first | exact True.intro | exact d1 _ | exact d1t _ | exact d2 _ | exact d3 _ _ | exact d3f _ _ | exact fun _ _ => rfl | exact fun _ => rfl | exact rfl | refine And.intro ?_ ?_))
              refine And.intro ?_ (And.intro (fun hg => absurd hg (by decide)) (fun hg => ?_))
              · (repeat' (first | exact True.intro | exact d1 _ | exact d1t _ | exact d2 _ | exact d3 _ _ | exact d3f _ _ | exact fun _ _ => rfl | exact fun _ => rfl | exact rfl | refine And.intro ?_ ?_))
              refine And.intro ?_ (And.intro (fun hg => ?_) (fun hg => absurd hg (by simp [gB, wB])))
              · (repeat' (first | exact True.intro | exact d1 _ | exact d1t _ | exact d2 _ | exact d3 _ _ | exact d3f _ _ | exact fun _ _ => rfl | exact fun _ => rfl | exact rfl | refine And.intro ?_ ?_))
              refine (t14).use [3, 4] ?_ (by (repeat' (first | exact trivial | exact rfl | exact fun _ _ => rfl | exact Or.inl rfl | refine And.intro ?_ ?_))) rfl
              refine And.intro ?_ ?_
              · (repeat' (first | exact trivial | exact fun _ => rfl | exact rfl | refine And.intro ?_ ?_))
              exact ent_tau [0, 1, 2, 3, 4] ⟨by (repeat' (first | exact trivial | exact rfl | exact fun _ _ => rfl | exact Or.inl rfl | refine And.intro ?_ ?_)), by (repeat' (first | exact trivial | exact rfl | exact congrArg (SV.int .i64) (Int.natCast_succ _).symm | refine And.intro ?_ ?_)), rfl⟩
    · have hcount : t.countT = ⟨0, 1⟩ := by simp [TD.countT, hv]
      have hclash : t.clashT = ⟨0, 1⟩ := by simp [TD.clashT, hv]
      have c26 := t26 t
      rw [hcount] at c26
      have c20 := t20 t
      rw [hclash] at c20
      have c34 := t34 t ht
      rw [show t.valid = false by simp [TD.valid, hv]] at c34
      refine (c20).use [0, 1, 2, 3, 4] ?_ (by (repeat' (first | exact trivial | exact rfl | exact fun _ _ => rfl | exact Or.inl rfl | refine And.intro ?_ ?_))) rfl
      refine And.intro ?_ ?_
      · (repeat' (first | exact trivial | exact fun _ => rfl | exact rfl | refine And.intro ?_ ?_))
      refine (c26).use [0, 1, 2, 3, 4] ?_ (by (repeat' (first | exact trivial | exact rfl | exact fun _ _ => rfl | exact Or.inl rfl | refine And.intro ?_ ?_))) rfl
      refine And.intro ?_ ?_
      · (repeat' (first | exact trivial | exact fun _ => rfl | exact rfl | refine And.intro ?_ ?_))
      refine (c34).use [0, 1, 2] ?_ (by (repeat' (first | exact trivial | exact rfl | exact fun _ _ => rfl | exact Or.inl rfl | refine And.intro ?_ ?_))) rfl
      refine And.intro ?_ (And.intro (fun h => ?_) (fun h => absurd h (by decide)))
      · (repeat' (first | exact trivial | exact fun _ => rfl | exact rfl | refine And.intro ?_ ?_))
      refine And.intro ?_ (And.intro (fun h => ?_) (fun h => absurd h (by decide)))
      · (repeat' (first | exact trivial | exact fun _ => rfl | exact rfl | refine And.intro ?_ ?_))
      refine (t14).use [3, 4] ?_ (by (repeat' (first | exact trivial | exact rfl | exact fun _ _ => rfl | exact Or.inl rfl | refine And.intro ?_ ?_))) rfl
      refine And.intro ?_ ?_
      · (repeat' (first | exact trivial | exact fun _ => rfl | exact rfl | refine And.intro ?_ ?_))
      exact ent_tau [0, 1, 2, 3, 4] ⟨by (repeat' (first | exact trivial | exact rfl | exact fun _ _ => rfl | exact Or.inl rfl | refine And.intro ?_ ?_)), by (repeat' (first | exact trivial | exact rfl | exact congrArg (SV.int .i64) (Int.natCast_succ _).symm | refine And.intro ?_ ?_)), rfl⟩
end Go.Proofs.YtipbempkngfdbaaDoor
