/-
  Parts: B27, C4, Tab, C5, D10.
-/
import Derived.Test.YtipbempkngfdbaaGreatDoorK11
import Derived.Test.YtipbempkngfdbaaGreatDoorK15
import Derived.Test.YtipbempkngfdbaaGreatDoorK22
import Derived.Lib.LaidTab
import Derived.Stop.LaidErr
import Derived.ProofKit
import Derived.OpenShut
import Derived.Carry
import Derived.Test.YtipbempkngfdbaaGreatDoorRows
set_option linter.unusedVariables false
/-
  From a contract to the statement's world: a world whose blocks are only read.
-/
namespace Go.Sy
open Go

/-- A block that is only read. -/
def roO : SObj → Bool
  | .roc _ => true
  | .roa .. => true
  | .glob .. => true
  | _ => false
theorem roO_rw {o : SObj} (h : roO o = true) : o.rw = false := by cases o <;> first | rfl | cases h
theorem roO_bnd {o : SObj} (h : roO o = true) {η : Nam} {a : Nat × Nat} {F : Nat → Prop} {w : World} (hh : o.holds η a F w) {b : Nat} (hf : o.foot a F b) : b < w.heap.size := by
  have aux : ∀ {ob : Obj}, w.heap[a.1]? = some ob → a.1 = b → b < w.heap.size := fun e e' => by
    subst e'
    rcases Nat.lt_or_ge a.1 w.heap.size with h | h
    · exact h
    · rw [Array.getElem?_eq_none h] at e
      cases e
  cases o <;> first | cases h | skip
  all_goals simp only [SObj.holds, SObj.foot] at hh hf
  · obtain ⟨c, T, fz, vs, h1, _⟩ := hh
    exact aux h1 hf
  · obtain ⟨c, T, fz, h1, _⟩ := hh
    exact aux h1 hf
  · obtain ⟨_, c, T, fz, vs, h1, _⟩ := hh
    exact aux h1 hf

/-- A world whose named blocks are only read. -/
theorem satRo {h : SHeap} {W : World} (av : List (Nat × Nat)) (hl : av.length = h.length) (ho : ∀ (i : Nat) x, h[i]? = some x → ∃ o, x = some o ∧ roO o = true)
    (hh : ∀ (i : Nat) o a, h[i]? = some (some o) → av[i]? = some a → o.holds (fun j => av[j]?) a (fun _ => False) W) :
    Sat (fun j => av[j]?) (fun _ _ => False) h W (fun _ => False) W where
  size := Nat.le_refl _
  env := SameEnv.refl W
  keep := fun _ _ _ => rfl
  dom := fun i a e => by
    have hi : i < h.length := by
      rcases Nat.lt_or_ge i av.length with h1 | h1
      · omega
      · have e' : av[i]? = some a := e
        rw [List.getElem?_eq_none h1] at e'
        cases e'
    obtain ⟨o, h1, h2⟩ := ho i _ (List.getElem?_eq_getElem hi)
    exact ⟨o, by rw [List.getElem?_eq_getElem hi, h1]⟩
  named := fun i o e => by
    have hi : i < av.length := by
      rcases Nat.lt_or_ge i h.length with h1 | h1
      · omega
      · rw [List.getElem?_eq_none h1] at e
        cases e
    exact ⟨_, List.getElem?_eq_getElem hi⟩
  holds := fun i o a e e' => hh i o a e e'
  bnd := fun i o a b e e' hf => by
    obtain ⟨o', h1, h2⟩ := ho i _ e
    cases h1
    exact roO_bnd h2 (hh i o a e e') hf
  own := fun i o a b e _ hr _ => by
    obtain ⟨o', h1, h2⟩ := ho i _ e
    cases h1
    rw [roO_rw h2] at hr
    cases hr
  sep := fun i _ o _ _ _ _ _ e _ _ _ hr => by
    obtain ⟨o', h1, h2⟩ := ho i _ e
    cases h1
    rw [roO_rw h2] at hr
    cases hr

/-- What the call leaves of the world it began in: all of it. -/
theorem keptOf {η : Nam} {φ : Feet} {h : SHeap} {W W' : World} (hs : Sat η φ h W (fun _ => False) W') (may : MemPlace → Prop) : W.keptBut W' may := by
  refine ⟨hs.env.1, hs.env.2, fun i hi => ?_⟩
  rw [hs.keep i hi (fun hx => hx)]
  cases W.heap[i]? with
  | none => exact rfl
  | some o =>
    cases o <;> first | exact rfl | exact ⟨rfl, rfl, rfl, fun _ _ => rfl⟩ | exact Or.inr ⟨rfl, rfl⟩

/-- A contract, at a world that realises its heap. -/
theorem CallP.world {P : Program} {f : FuncId} {args : List SV} {h h' : SHeap} {v : SV} (hc : CallP P f args h (Ret v h')) {η : Nam} {φ : Feet} {W : World} (hs : Sat η φ h W (fun _ => False) W)
    {vs : List Value} (hd : denL η args = some vs) {u : Value} (hu : ∀ η', den η' v = some u) :
    Calls P f vs.toArray W fun e W' => e = .returned u ∧ W.heap.size ≤ W'.heap.size ∧ (∀ b, b < W.heap.size → W'.heap[b]? = W.heap[b]?) ∧ ∀ may, W.keptBut W' may := by
  refine (hc η φ W (fun _ => False) W vs hs hd).mono ?_
  rintro e W' ⟨ce, h'', η', φ', ⟨rfl, rfl⟩, _, _, hr, hs'⟩
  obtain ⟨u', h1, rfl⟩ := hr
  rw [hu η'] at h1
  cases h1
  exact ⟨rfl, hs'.size, fun b hb => hs'.keep b hb (fun hx => hx), fun may => keptOf hs' may⟩

/-- A table, held. -/
theorem glob_holds {P : Program} {W : World} {name : String} {k : IntKind} {zs : List Int} {g : Nat} (h : Lib.TabIs P W name k zs) (hg : P.globalNamed name = some g) {η : Nam} {F : Nat → Prop} :
    (SObj.glob g (zs.map fun z => .int k z)).holds η (g, 0) F W := by
  unfold Lib.TabIs World.var? at h
  rw [hg] at h
  simp only [Option.bind_some] at h
  have hd : denL η (zs.map fun z => SV.int k z) = some (zs.map fun z => Value.int k z) := by
    clear h
    induction zs with
    | nil => rfl
    | cons z zs ih => simp only [List.map_cons, denL, den, ih, Option.bind_some, Option.map_some]
  cases hh : W.heap[g]? with
  | none => rw [hh] at h; cases h
  | some o =>
    rw [hh] at h
    cases o <;> first | cases h | skip
    exact ⟨rfl, _, _, _, _, hh, hd, fun j v e => by simpa using e⟩
end Go.Sy
/-
  From the statement's reading of an argument to rows that are only read.
-/
namespace Go.Sy
open Go Go.ChangeShapes Go.WideShapes Go.ChangeAt Go.RowKit

/-- Whatever was read at the beginning is read again, where no old block has changed. -/
theorem trodAll_kept {H : Type} {enc : TypeId × Value → H} {P : Program} (hl : laidOutB P = true) {W W' : World} (hs : W.heap.size ≤ W'.heap.size) (hk : ∀ b, b < W.heap.size → W'.heap[b]? = W.heap[b]?) :
    ∀ {ts : List TypeId} {vs : List Value} {ds : List (DataW H)} {ps : List MemPlace}, (ts.all fun t => P.readableRec t && decide (t < P.types.size)) = true →
    DataW.TrodAll enc P W 0 (fun _ => true) true ts vs ds ps → (∀ x ∈ ps, x.block < W.heap.size) → DataW.TrodAll enc P W' 0 (fun b => decide (b < W.heap.size)) true ts vs ds ps
  | [], [], [], ps, _, h, _ => h
  | t :: ts, v :: vs, d :: ds, ps, ht, h, hlt => by
    obtain ⟨p, q, h1, h2, rfl⟩ := h
    simp only [List.all_cons, Bool.and_eq_true, decide_eq_true_eq] at ht
    refine ⟨p, q, ?_, trodAll_kept hl hs hk ht.2 h2 (fun x hx => hlt x (List.mem_append_right _ hx)), rfl⟩
    refine WideElems.Trod_stays hl ht.1.1 ht.1.2 h1 (fun x hx => ?_) (fun x hx => by simpa using hlt x (List.mem_append_left _ hx))
    have hb := hlt x (List.mem_append_left _ hx)
    cases x with
    | cell b o => exact World.cell?_of_block (w := W) (hk b hb)
    | map b => exact hk b hb
  | [], _ :: _, _, _, _, h, _ => by simp [DataW.TrodAll] at h
  | [], [], _ :: _, _, _, h, _ => by simp [DataW.TrodAll] at h
  | _ :: _, [], _, _, _, h, _ => by simp [DataW.TrodAll] at h
  | _ :: _, _ :: _, [], _, _, h, _ => by simp [DataW.TrodAll] at h

/-- Cells that are numbers of the machine. -/
def intCells (n : Nat) (cs : List Value) : Prop := ∃ zs : List Int, zs.length = n ∧ (∀ z ∈ zs, InR .i64 z) ∧ cs = zs.map (Value.int .i64)
theorem intCells.append {n m : Nat} {a b : List Value} (ha : intCells n a) (hb : intCells m b) : intCells (n + m) (a ++ b) := by
  obtain ⟨x, h1, h2, rfl⟩ := ha
  obtain ⟨y, h3, h4, rfl⟩ := hb
  refine ⟨x ++ y, by simp [h1, h3], fun z hz => ?_, by simp⟩
  rcases List.mem_append.1 hz with h | h
  · exact h2 z h
  · exact h4 z h
theorem intCells.cut {n m : Nat} {cs : List Value} (hl : cs.length = n + m) (ha : intCells n ((cs.drop 0).take n)) (hb : intCells m ((cs.drop n).take m)) : intCells (n + m) cs := by
  have := ha.append hb
  rwa [List.drop_zero, List.take_of_length_le (l := cs.drop n) (by simp; omega), List.take_append_drop] at this

section
variable {H : Type} {enc : TypeId × Value → H} {P : Program} {w : World} {base : Nat} {sp : Nat → Bool} {held : Bool}
/-- A type whose values read as numbers of the machine. -/
def IntT (enc : TypeId × Value → H) (P : Program) (w : World) (base : Nat) (sp : Nat → Bool) (held : Bool) (t : TypeId) (n : Nat) : Prop :=
  P.cellsOf t = n ∧ ∀ fuel cs x, DataW.trod enc P w base sp held fuel t cs = some x → intCells n cs
theorem IntT.int {t : TypeId} (ht : P.underlying t = some (.int .i64)) (hc : P.cellsOf t = 1) : IntT enc P w base sp held t 1 := by
  refine ⟨hc, fun fuel cs x h => ?_⟩
  obtain ⟨z, rfl, _, hw⟩ := DataW.trod_int ht h
  refine ⟨[z], rfl, fun y hy => ?_, rfl⟩
  simp only [List.mem_singleton] at hy
  subst hy
  simpa [Lit.wf, InR, IntKind.min, IntKind.max, IntKind.signed, IntKind.bits] using hw
theorem IntT.two {t : TypeId} {f0 f1 : Field} {n m : Nat} (ht : P.underlying t = some (.struct #[f0, f1])) (h0 : IntT enc P w base sp held f0.type n) (h1 : IntT enc P w base sp held f1.type m) (o0 : f0.offset = 0) (o1 : f1.offset = n) (hc : P.cellsOf t = n + m) : IntT enc P w base sp held t (n + m) := by
  refine ⟨hc, fun fuel cs x h => ?_⟩
  obtain ⟨xs, k, rfl, rfl, hl, hx, hf⟩ := DataW.trod_struct ht h
  have a0 := hf 0 f0 rfl
  have a1 := hf 1 f1 rfl
  rw [List.getElem?_eq_getElem (by simp [hx])] at a0 a1
  rw [h0.1, o0] at a0
  rw [h1.1, o1] at a1
  exact intCells.cut (by rw [hl, hc]) (h0.2 _ _ _ a0) (h1.2 _ _ _ a1)
theorem IntT.three {t : TypeId} {f0 f1 f2 : Field} {n m k : Nat} (ht : P.underlying t = some (.struct #[f0, f1, f2])) (h0 : IntT enc P w base sp held f0.type n) (h1 : IntT enc P w base sp held f1.type m) (h2 : IntT enc P w base sp held f2.type k) (o0 : f0.offset = 0) (o1 : f1.offset = n) (o2 : f2.offset = n + m)
    (hc : P.cellsOf t = n + m + k) : IntT enc P w base sp held t (n + m + k) := by
  refine ⟨hc, fun fuel cs x h => ?_⟩
  obtain ⟨xs, q, rfl, rfl, hl, hx, hf⟩ := DataW.trod_struct ht h
  have a0 := hf 0 f0 rfl
  have a1 := hf 1 f1 rfl
  have a2 := hf 2 f2 rfl
  rw [List.getElem?_eq_getElem (by simp [hx])] at a0 a1 a2
  rw [h0.1, o0] at a0
  rw [h1.1, o1] at a1
  rw [h2.1, o2] at a2
  have b0 := h0.2 _ _ _ a0
  have b1 := h1.2 _ _ _ a1
  have b2 := h2.2 _ _ _ a2
  have c : intCells (n + m) (cs.take (n + m)) := by
    refine intCells.cut (by simp; omega) ?_ ?_
    · rwa [List.drop_zero, List.take_take, Nat.min_eq_left (by omega)] 
    · rwa [List.drop_take, List.take_take, show min m (n + m - n) = m by omega]
  have d := c.append b2
  rwa [List.take_of_length_le (l := cs.drop (n + m)) (by simp; omega), List.take_append_drop] at d

/-- The number in a cell, if it is one of the machine. -/
def cellI (W : World) (a : Nat × Nat) (k : Nat) : Int :=
  match W.cell? ⟨a.1, a.2 + k, none⟩ with
  | some (.int .i64 n) => if -9223372036854775808 ≤ n ∧ n ≤ 9223372036854775807 then n else 0
  | _ => 0
theorem cellI_ok (W : World) (a : Nat × Nat) (k : Nat) : InR .i64 (cellI W a k) := by
  unfold cellI
  split
  · split
    · rename_i h
      simpa [InR, IntKind.signed, IntKind.bits] using h
    · simp [InR]
  · simp [InR]
theorem mapM_get {α β : Type} {f : α → Option β} : ∀ {l : List α} {r : List β}, l.mapM f = some r → r.length = l.length ∧ ∀ (i : Nat) (a : α), l[i]? = some a → f a = r[i]? := by
  intro l
  induction l with
  | nil =>
    intro r h
    simp at h
    subst h
    exact ⟨rfl, fun i a h => by simp at h⟩
  | cons x l ih =>
    intro r h
    simp only [List.mapM_cons, Option.bind_eq_bind, Option.bind_eq_some_iff, Option.pure_def, Option.some.injEq] at h
    obtain ⟨y, h1, ys, h2, rfl⟩ := h
    obtain ⟨h3, h4⟩ := ih h2
    refine ⟨by simp [h3], fun i a ha => ?_⟩
    cases i with
    | zero => simp at ha; subst ha; simpa using h1
    | succ i => simpa using h4 i a (by simpa using ha)

/-- A slice of such: nil, or rows of cells that are numbers. -/
theorem sliceOpen {t e : TypeId} {sz : Nat} {v : Value} {d : DataW H} {ps : List MemPlace} {r : Reach} {b0 : Nat} (ht : P.underlying t = some (.slice e)) (he : IntT enc P w base sp held e sz)
    (hval : Cell.okWide P w r b0 t v) {fuel : Nat} (h : DataW.trod enc P w base sp held fuel t [v] = some (d, ps)) :
    v = .slice none 0 0 ∨ ∃ (a : Nat × Nat) (n c : Nat), v = .slice (some ⟨a.1, a.2, none⟩) n c ∧ n ≤ c ∧ (c : Int) ≤ 9223372036854775807 ∧ ∃ cs T fz, w.heap[a.1]? = some (.cells cs T fz) ∧
      ∀ k, k < n → ∀ j, j < sz → cs[a.2 + (k * sz + j)]? = some (.int .i64 (cellI w a (k * sz + j))) := by
  rcases DataW.trod_slice ht h with ⟨h1, _⟩ | ⟨a, len, cap, elems, rest, n, rfl, h1, _, _, hlc, _, hel, hat, _, _⟩
  · left
    simpa using h1
  · right
    simp only [List.cons.injEq, and_true] at h1
    subst h1
    have hv : len ≤ cap ∧ (cap : Int) ≤ IntKind.i64.max ∧ w.has P r b0 a e cap := by
      unfold Cell.okWide at hval
      rw [ht] at hval
      unfold Cell.ok at hval
      rw [ht] at hval
      exact hval
    obtain ⟨_, hc2, _, hsp, row, cells, hsh, _⟩ := hv
    unfold World.shape? at hsh
    cases hh : w.heap[a.block]? with
    | none => rw [hh] at hsh; cases hsh
    | some o =>
      rw [hh] at hsh
      cases o with
      | map _ _ | loop _ | chan _ | pending _ _ | view _ _ | number _ | stringIter _ _ | mapIter _ _ _ _ | deferred _ | coro _ | finalizers _ => cases hsh
      | cells cs T fz =>
        obtain ⟨ab, ao, asp⟩ := a
        simp only at hsp hh
        subst hsp
        refine ⟨(ab, ao), len, cap, rfl, hlc, by simpa [IntKind.max, IntKind.signed, IntKind.bits] using hc2, cs, T, fz, hh, fun k hk j hj => ?_⟩
        have h2 := hat k hk
        rw [List.getElem?_eq_getElem (by omega)] at h2
        obtain ⟨ys, h3, h4⟩ := Option.bind_eq_some_iff.1 h2
        rw [he.1] at h3
        obtain ⟨zs, hz, hr, rfl⟩ := he.2 _ _ _ h4
        unfold World.cells? at h3
        split at h3
        · obtain ⟨_, h6⟩ := mapM_get h3
          have h7 := h6 j j (by simp [hj])
          rw [List.getElem?_map, List.getElem?_eq_getElem (by omega)] at h7
          have hin := hr (zs[j]'(by omega)) (List.getElem_mem _)
          have e1 : w.cell? ⟨ab, ao + (k * sz + j), none⟩ = some (.int .i64 (zs[j]'(by omega))) := by
            simpa [addr_add, he.1, Nat.add_assoc] using h7
          have e2 : cellI w (ab, ao) (k * sz + j) = zs[j]'(by omega) := by
            unfold cellI
            rw [e1]
            simp only
            rw [if_pos (by simpa [InR, IntKind.signed, IntKind.bits] using hin)]
          rw [e2]
          simpa [World.cell?, hh] using e1
        · cases h3
end
end Go.Sy
/-
  The tables that the rows of this seat list, as blocks.
-/
namespace Go.Proofs.YtipbempkngfdbaaGreatDoor
open Go Go.Sy
set_option maxRecDepth 100000

theorem gDone : Tryz.prog.globalNamed "dipworks/tide.done" = some 0 := by kernel_rfl
theorem gDb : Tryz.prog.globalNamed "math/bits.deBruijn64tab" = some 1 := by kernel_rfl
theorem gDoneT : (Tryz.prog.globals[0]?).map (·.type) = some 116 := by kernel_rfl
theorem gDbT : (Tryz.prog.globals[1]?).map (·.type) = some 133 := by kernel_rfl
theorem c148 : Tryz.prog.cellsOf 116 = 7 := by kernel_rfl
theorem c162 : Tryz.prog.cellsOf 133 = 64 := by kernel_rfl
theorem c3 : Tryz.prog.cellsOf 3 = 1 := by kernel_rfl
theorem c5 : Tryz.prog.cellsOf 5 = 1 := by kernel_rfl
def tDone : List Int := [0, 1, 3, 6, 9, 11, 12]
def tDb : List Int := [0, 1, 56, 2, 57, 49, 28, 3, 61, 58, 42, 50, 38, 29, 17, 4, 62, 47, 59, 36, 45, 43, 51, 22, 53, 39, 33, 30, 24, 18, 12, 5, 63, 55, 48, 27, 60, 41, 37, 16, 46, 35, 44, 21, 52, 32, 23, 11, 54, 26, 40, 15, 34, 20, 31, 10, 25, 14, 19, 9, 13, 8, 7, 6]
theorem tabDb {W : World} (h : laidMetH Tryz.prog Rows.tideTellsRow.laid W) : Lib.TabIs Tryz.prog W "math/bits.deBruijn64tab" .u8 tDb :=
  Lib.tabIs_of_head (rest := [("dipworks/tide.done", Rows.laid_dipworks_tide_done)]) gDb gDbT Tryz.underlying133 Tryz.underlying5 c5 c162 h
theorem tabDone {W : World} (h : laidMetH Tryz.prog Rows.tideTellsRow.laid W) : Lib.TabIs Tryz.prog W "dipworks/tide.done" .i64 tDone :=
  Lib.tabIs_of_head (rest := []) gDone gDoneT Tryz.underlying116 Tryz.underlying3 c3 c148 (laidMet.tail (x := ("math/bits.deBruijn64tab", Rows.laid_math_bits_deBruijn64tab)) h)

end Go.Proofs.YtipbempkngfdbaaGreatDoor
/-
  A tide that is handed to a statement, as rows that are only read.
-/
namespace Go.Proofs.YtipbempkngfdbaaGreatDoor
open Go Go.Sy Go.ChangeShapes Go.WideShapes Go.ChangeAt Go.RowKit
set_option maxRecDepth 100000

section
variable {H : Type} {enc : TypeId × Value → H} {w : World} {base : Nat} {sp : Nat → Bool} {held : Bool}
theorem it3 : IntT enc Tryz.prog w base sp held 3 1 := IntT.int Tryz.underlying3 c3
theorem it41 : IntT enc Tryz.prog w base sp held 30 2 := IntT.two Tryz.underlying30 it3 it3 rfl rfl (by kernel_rfl)
theorem it54 : IntT enc Tryz.prog w base sp held 43 3 := IntT.two (n := 1) (m := 2) Tryz.underlying43 it3 it41 rfl rfl (by kernel_rfl)
theorem it62 : IntT enc Tryz.prog w base sp held 96 4 := IntT.three (n := 1) (m := 1) (k := 2) Tryz.underlying96 it3 it3 it41 rfl rfl rfl (by kernel_rfl)

theorem den_three {η : Nam} {x y z : SV} {a b c : Value} (hx : den η x = some a) (hy : den η y = some b) (hz : den η z = some c) : den η (.agg [x, y, z]) = some (.agg #[a, b, c]) := by
  simp [den, denL, hx, hy, hz]
/-- A slice of rows, whether it is nil or not. -/
theorem partOpen {t e : TypeId} {sz : Nat} {v : Value} {d : DataW H} {ps : List MemPlace} {r : Reach} {b0 : Nat} (ht : Tryz.prog.underlying t = some (.slice e)) (he : IntT enc Tryz.prog w base sp held e sz)
    (h0 : ∃ cs T fz, w.heap[0]? = some (.cells cs T fz)) (hval : Cell.okWide Tryz.prog w r b0 t v) {fuel : Nat} (h : DataW.trod enc Tryz.prog w base sp held fuel t [v] = some (d, ps)) :
    ∃ (b : Bool) (a : Nat × Nat) (n c : Nat), (∀ (η : Nam) i, η i = some a → den η (.osl b i sz n c) = some v) ∧ ∃ cs T fz, w.heap[a.1]? = some (.cells cs T fz) ∧ ∀ k, k < n → ∀ j, j < sz → cs[a.2 + (k * sz + j)]? = some (.int .i64 (cellI w a (k * sz + j))) := by
  rcases sliceOpen ht he hval h with rfl | ⟨a, n, c, rfl, _, _, cs, T, fz, h1, h2⟩
  · obtain ⟨cs, T, fz, h1⟩ := h0
    exact ⟨false, (0, 0), 0, 0, fun η i _ => by simp [den], cs, T, fz, h1, fun k hk => by omega⟩
  · exact ⟨true, a, n, c, fun η i hi => by simp [den, hi], cs, T, fz, h1, h2⟩

/-- The tide that an argument is. -/
structure TideIn (w : World) (v : Value) (t : TD) (a0 a1 a2 : Nat × Nat) : Prop where
  ok : t.ok
  den : ∀ η : Nam, η 0 = some a0 → η 1 = some a1 → η 2 = some a2 → den η t.A = some v
  m : ∀ (η : Nam) F, (SObj.roa 3 t.nM (row3 t.mi t.mlo t.mhi)).holds η a0 F w
  s : ∀ (η : Nam) F, (SObj.roa 2 t.nS (row2 t.slo t.shi)).holds η a1 F w
  l : ∀ (η : Nam) F, (SObj.roa 4 t.nL (row4 t.lp t.lm t.llo t.lhi)).holds η a2 F w
theorem tideOpen {v : Value} {d : DataW H} {ps : List MemPlace} {r : Reach} {b0 : Nat} (h0 : ∃ cs T fz, w.heap[0]? = some (.cells cs T fz)) (hval : Value.okWide Tryz.prog w r b0 26 v)
    (h : DataW.Trod enc Tryz.prog w base sp held 26 v d ps) : ∃ t a0 a1 a2, TideIn w v t a0 a1 a2 := by
  unfold Value.okWide at hval
  rw [Tryz.underlying26] at hval
  obtain ⟨cs, rfl, hsz, ts, hts, _, hc⟩ := hval
  have e1 : Tryz.prog.cellsOf 26 = 3 := by kernel_rfl
  have e2 : Tryz.prog.cellTypes Tryz.prog.depth 26 = some [22, 23, 24] := by kernel_rfl
  have e3 : Tryz.prog.cellsOf 22 = 1 := by kernel_rfl
  have e4 : Tryz.prog.cellsOf 23 = 1 := by kernel_rfl
  have e5 : Tryz.prog.cellsOf 24 = 1 := by kernel_rfl
  rw [e1] at hsz
  rw [e2] at hts
  cases hts
  obtain ⟨fuel, h⟩ := h
  obtain ⟨v0, v1, v2, rfl⟩ : ∃ v0 v1 v2, cs = #[v0, v1, v2] := by
    obtain ⟨l⟩ := cs
    match l, hsz with
    | [a, b, c], _ => exact ⟨a, b, c, rfl⟩
  obtain ⟨xs, n, rfl, hx, _, hlen, hf⟩ := DataW.trod_struct Tryz.underlying26 h
  have hlen' : xs.length = 3 := hlen
  have f0 : DataW.trod enc Tryz.prog w base sp held n 22 (([v0, v1, v2].drop 0).take (Tryz.prog.cellsOf 22)) = xs[0]? := hf 0 _ rfl
  rw [e3, List.getElem?_eq_getElem (by omega)] at f0
  have f1 : DataW.trod enc Tryz.prog w base sp held n 23 (([v0, v1, v2].drop 1).take (Tryz.prog.cellsOf 23)) = xs[1]? := hf 1 _ rfl
  rw [e4, List.getElem?_eq_getElem (by omega)] at f1
  have f2 : DataW.trod enc Tryz.prog w base sp held n 24 (([v0, v1, v2].drop 2).take (Tryz.prog.cellsOf 24)) = xs[2]? := hf 2 _ rfl
  rw [e5, List.getElem?_eq_getElem (by omega)] at f2
  obtain ⟨u0, hu0, w0⟩ := hc 0 v0 rfl
  obtain ⟨u1, hu1, w1⟩ := hc 1 v1 rfl
  obtain ⟨u2, hu2, w2⟩ := hc 2 v2 rfl
  cases hu0
  cases hu1
  cases hu2
  obtain ⟨bM, a0, nM, cM, d0, cs0, T0, z0, g0, k0⟩ := partOpen Tryz.underlying22 it54 h0 w0 f0
  obtain ⟨bS, a1, nS, cS, d1, cs1, T1, z1, g1, k1⟩ := partOpen Tryz.underlying23 it41 h0 w1 f1
  obtain ⟨bL, a2, nL, cL, d2, cs2, T2, z2, g2, k2⟩ := partOpen Tryz.underlying24 it62 h0 w2 f2
  refine ⟨⟨nM, nS, nL, fun k => cellI w a0 (k * 3), fun k => cellI w a0 (k * 3 + 1), fun k => cellI w a0 (k * 3 + 2), fun k => cellI w a1 (k * 2), fun k => cellI w a1 (k * 2 + 1), fun k => cellI w a2 (k * 4), fun k => cellI w a2 (k * 4 + 1), fun k => cellI w a2 (k * 4 + 2), fun k => cellI w a2 (k * 4 + 3), bM, bS, bL, cM, cS, cL⟩, a0, a1, a2, ?_, ?_, ?_, ?_, ?_⟩
  · constructor <;> intro k <;> exact cellI_ok _ _ _
  · intro η q0 q1 q2
    exact den_three (d0 η 0 q0) (d1 η 1 q1) (d2 η 2 q2)
  · intro η F
    refine ⟨cs0, T0, z0, g0, fun k hk => ⟨_, rfl, rfl, fun j v hj => ?_⟩⟩
    match j, hj with
    | 0, hj => cases hj; exact k0 k hk 0 (by omega)
    | 1, hj => cases hj; exact k0 k hk 1 (by omega)
    | 2, hj => cases hj; exact k0 k hk 2 (by omega)
  · intro η F
    refine ⟨cs1, T1, z1, g1, fun k hk => ⟨_, rfl, rfl, fun j v hj => ?_⟩⟩
    match j, hj with
    | 0, hj => cases hj; exact k1 k hk 0 (by omega)
    | 1, hj => cases hj; exact k1 k hk 1 (by omega)
  · intro η F
    refine ⟨cs2, T2, z2, g2, fun k hk => ⟨_, rfl, rfl, fun j v hj => ?_⟩⟩
    match j, hj with
    | 0, hj => cases hj; exact k2 k hk 0 (by omega)
    | 1, hj => cases hj; exact k2 k hk 1 (by omega)
    | 2, hj => cases hj; exact k2 k hk 2 (by omega)
    | 3, hj => cases hj; exact k2 k hk 3 (by omega)
end

/-- A world that holds the rows of a tide, and both tables. -/
theorem satHG {w : World} {v : Value} {t : TD} {a0 a1 a2 : Nat × Nat} (h : TideIn w v t a0 a1 a2) (hL : laidMetH Tryz.prog Rows.tideTellsRow.laid w) :
    Sat (fun j => [a0, a1, a2, ((0 : Nat), (0 : Nat)), (1, 0)][j]?) (fun _ _ => False) t.HG w (fun _ => False) w := by
  refine satRo _ rfl ?_ ?_
  · intro i x hx
    match i, hx with
    | 0, hx => cases hx; exact ⟨_, rfl, rfl⟩
    | 1, hx => cases hx; exact ⟨_, rfl, rfl⟩
    | 2, hx => cases hx; exact ⟨_, rfl, rfl⟩
    | 3, hx => cases hx; exact ⟨_, rfl, rfl⟩
    | 4, hx => cases hx; exact ⟨_, rfl, rfl⟩
  · intro i o a ho ha
    match i, ho, ha with
    | 0, ho, ha => cases ho; cases ha; exact h.m _ _
    | 1, ho, ha => cases ho; cases ha; exact h.s _ _
    | 2, ho, ha => cases ho; cases ha; exact h.l _ _
    | 3, ho, ha => cases ho; cases ha; exact glob_holds (tabDone hL) gDone
    | 4, ho, ha => cases ho; cases ha; exact glob_holds (tabDb hL) gDb
/-- The first block holds cells. -/
theorem cells0 {w : World} (hL : laidMetH Tryz.prog Rows.tideTellsRow.laid w) : ∃ cs T fz, w.heap[0]? = some (.cells cs T fz) := by
  have h := tabDone hL
  unfold Lib.TabIs World.var? at h
  rw [gDone] at h
  simp only [Option.bind_some] at h
  split at h
  · rename_i e
    exact ⟨_, _, _, e⟩
  · cases h
end Go.Proofs.YtipbempkngfdbaaGreatDoor
/-
  A look that is handed to a statement.
-/
namespace Go.Proofs.YtipbempkngfdbaaGreatDoor
open Go Go.Sy Go.ChangeShapes Go.WideShapes Go.ChangeAt Go.RowKit
set_option maxRecDepth 100000

structure LookD where
  p : Int
  m : Int
  lo : Int
  hi : Int
def LookD.S (k : LookD) : SV := .agg [.int .i64 k.p, .int .i64 k.m, .int .i64 k.lo, .int .i64 k.hi]
end Go.Proofs.YtipbempkngfdbaaGreatDoor
