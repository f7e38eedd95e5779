/-
  Parts: Ds, Mm.
-/
import Derived.Test.YtioajogaghgipaaN13
import Derived.Test.YtioajogaghgipaaN2
import Derived.ProofKit
import Derived.OpenShut
import Derived.Carry
import Derived.Test.YtioajogaghgipaaProg
import Derived.Laws.StructEq
import Derived.ChangeKeysEq
import Derived.KernelRfl
set_option linter.unusedVariables false
/-
 From the statement's reading of an argument to rows that are only read.
-/
namespace Go.Sy
open Go Go.ChangeShapes Go.WideShapes Go.ChangeAt Go.RowKit

theorem trodAll_kept {H : Type} {enc : TypeId × Value → H} {P : Program} (hl : laidOutB P = true) {W W' : World} (hs : W.heap.size ≤ W'.heap.size) (hk : ∀ b, b < W.heap.size → W'.heap[b]? = W.heap[b]?) :
  ∀ {ts : List TypeId} {vs : List Value} {ds : List (DataW H)} {ps : List MemPlace}, (ts.all fun t => P.readableRec t && decide (t < P.types.size)) = true →
  DataW.TrodAll enc P W 0 (fun _ => true) true ts vs ds ps → (∀ x ∈ ps, x.block < W.heap.size) → DataW.TrodAll enc P W' 0 (fun b => decide (b < W.heap.size)) true ts vs ds ps
 | [], [], [], ps, _, h, _ => h
 | t :: ts, v :: vs, d :: ds, ps, ht, h, hlt => by
  obtain ⟨p, q, h1, h2, rfl⟩ := h
  simp only [List.all_cons, Bool.and_eq_true, decide_eq_true_eq] at ht
  refine ⟨p, q, ?_, trodAll_kept hl hs hk ht.2 h2 (fun x hx => hlt x (List.mem_append_right _ hx)), rfl⟩
  refine WideElems.Trod_stays hl ht.1.1 ht.1.2 h1 (fun x hx => ?_) (fun x hx => by simpa using hlt x (List.mem_append_left _ hx))
  have hb := hlt x (List.mem_append_left _ hx)
  cases x with
  | cell b o => exact World.cell?_of_block (w := W) (hk b hb)
  | map b => exact hk b hb
 | [], _ :: _, _, _, _, h, _ => by simp [DataW.TrodAll] at h
 | [], [], _ :: _, _, _, h, _ => by simp [DataW.TrodAll] at h
 | _ :: _, [], _, _, _, h, _ => by simp [DataW.TrodAll] at h
 | _ :: _, _ :: _, [], _, _, h, _ => by simp [DataW.TrodAll] at h

def intCells (kd : IntKind) (n : Nat) (cs : List Value) : Prop := ∃ zs : List Int, zs.length = n ∧ (∀ z ∈ zs, InR kd z) ∧ cs = zs.map (Value.int kd)
theorem intCells.append {kd : IntKind} {n m : Nat} {a b : List Value} (ha : intCells kd n a) (hb : intCells kd m b) : intCells kd (n + m) (a ++ b) := by
 obtain ⟨x, h1, h2, rfl⟩ := ha
 obtain ⟨y, h3, h4, rfl⟩ := hb
 refine ⟨x ++ y, by simp [h1, h3], fun z hz => ?_, by simp⟩
 rcases List.mem_append.1 hz with h | h
 ·exact h2 z h
 ·exact h4 z h
theorem intCells.cut {kd : IntKind} {n m : Nat} {cs : List Value} (hl : cs.length = n + m) (ha : intCells kd n ((cs.drop 0).take n)) (hb : intCells kd m ((cs.drop n).take m)) : intCells kd (n + m) cs := by
 have := ha.append hb
 rwa [List.drop_zero, List.take_of_length_le (l := cs.drop n) (by simp; omega), List.take_append_drop] at this

section
variable {H : Type} {enc : TypeId × Value → H} {P : Program} {w : World} {base : Nat} {sp : Nat → Bool} {held : Bool}
def IntT (enc : TypeId × Value → H) (P : Program) (w : World) (base : Nat) (sp : Nat → Bool) (held : Bool) (kd : IntKind) (t : TypeId) (n : Nat) : Prop :=
 P.cellsOf t = n ∧ ∀ fuel cs x, DataW.trod enc P w base sp held fuel t cs = some x → intCells kd n cs
theorem IntT.int {kd : IntKind} (hkd : ∀ z, Lit.wf (.int kd z) = true → InR kd z) {t : TypeId} (ht : P.underlying t = some (.int kd)) (hc : P.cellsOf t = 1) : IntT enc P w base sp held kd t 1 := by
 refine ⟨hc, fun fuel cs x h => ?_⟩
 obtain ⟨z, rfl, _, hw⟩ := DataW.trod_int ht h
 refine ⟨[z], rfl, fun y hy => ?_, rfl⟩
 simp only [List.mem_singleton] at hy
 subst hy
 exact hkd _ hw
theorem IntT.two {kd : IntKind} {t : TypeId} {f0 f1 : Field} {n m : Nat} (ht : P.underlying t = some (.struct #[f0, f1])) (h0 : IntT enc P w base sp held kd f0.type n) (h1 : IntT enc P w base sp held kd f1.type m) (o0 : f0.offset = 0) (o1 : f1.offset = n) (hc : P.cellsOf t = n + m) : IntT enc P w base sp held kd t (n + m) := by
 refine ⟨hc, fun fuel cs x h => ?_⟩
 obtain ⟨xs, k, rfl, rfl, hl, hx, hf⟩ := DataW.trod_struct ht h
 have a0 := hf 0 f0 rfl
 have a1 := hf 1 f1 rfl
 rw [List.getElem?_eq_getElem (by simp [hx])] at a0 a1
 rw [h0.1, o0] at a0
 rw [h1.1, o1] at a1
 exact intCells.cut (by rw [hl, hc]) (h0.2 _ _ _ a0) (h1.2 _ _ _ a1)
theorem IntT.three {kd : IntKind} {t : TypeId} {f0 f1 f2 : Field} {n m k : Nat} (ht : P.underlying t = some (.struct #[f0, f1, f2])) (h0 : IntT enc P w base sp held kd f0.type n) (h1 : IntT enc P w base sp held kd f1.type m) (h2 : IntT enc P w base sp held kd f2.type k) (o0 : f0.offset = 0) (o1 : f1.offset = n) (o2 : f2.offset = n + m)
  (hc : P.cellsOf t = n + m + k) : IntT enc P w base sp held kd t (n + m + k) := by
 refine ⟨hc, fun fuel cs x h => ?_⟩
 obtain ⟨xs, q, rfl, rfl, hl, hx, hf⟩ := DataW.trod_struct ht h
 have a0 := hf 0 f0 rfl
 have a1 := hf 1 f1 rfl
 have a2 := hf 2 f2 rfl
 rw [List.getElem?_eq_getElem (by simp [hx])] at a0 a1 a2
 rw [h0.1, o0] at a0
 rw [h1.1, o1] at a1
 rw [h2.1, o2] at a2
 have b0 := h0.2 _ _ _ a0
 have b1 := h1.2 _ _ _ a1
 have b2 := h2.2 _ _ _ a2
 have c : intCells kd (n + m) (cs.take (n + m)) := by
  refine intCells.cut (by simp; omega) ?_ ?_
  ·rwa [List.drop_zero, List.take_take, Nat.min_eq_left (by omega)] 
  ·rwa [List.drop_take, List.take_take, show min m (n + m - n) = m by omega]
 have d := c.append b2
 rwa [List.take_of_length_le (l := cs.drop (n + m)) (by simp; omega), List.take_append_drop] at d

open Classical in
noncomputable def cellI (kd : IntKind) (W : World) (a : Nat × Nat) (k : Nat) : Int :=
 match W.cell? ⟨a.1, a.2 + k, none⟩ with
 | some (.int k n) => if k = kd ∧ InR kd n then n else 0
 | _ => 0
theorem inR_zero : ∀ kd, InR kd 0
 | .i8 | .i16 | .i32 | .i64 | .u8 | .u16 | .u32 | .u64 => by simp [InR]
theorem cellI_ok (kd : IntKind) (W : World) (a : Nat × Nat) (k : Nat) : InR kd (cellI kd W a k) := by
 unfold cellI
 split
 ·split
  ·rename_i h
   exact h.2
  ·exact inR_zero kd
 ·exact inR_zero kd
theorem mapM_get {α β : Type} {f : α → Option β} : ∀ {l : List α} {r : List β}, l.mapM f = some r → r.length = l.length ∧ ∀ (i : Nat) (a : α), l[i]? = some a → f a = r[i]? := by
 intro l
 induction l with
 | nil =>
  intro r h
  simp at h
  subst h
  exact ⟨rfl, fun i a h => by simp at h⟩
 | cons x l ih =>
  intro r h
  simp only [List.mapM_cons, Option.bind_eq_bind, Option.bind_eq_some_iff, Option.pure_def, Option.some.injEq] at h
  obtain ⟨y, h1, ys, h2, rfl⟩ := h
  obtain ⟨h3, h4⟩ := ih h2
  refine ⟨by simp [h3], fun i a ha => ?_⟩
  cases i with
  | zero => simp at ha; subst ha; simpa using h1
  | succ i => simpa using h4 i a (by simpa using ha)

theorem sliceOpen {kd : IntKind} {t e : TypeId} {sz : Nat} {v : Value} {d : DataW H} {ps : List MemPlace} {r : Reach} {b0 : Nat} (ht : P.underlying t = some (.slice e)) (he : IntT enc P w base sp held kd e sz)
  (hval : Cell.okWide P w r b0 t v) {fuel : Nat} (h : DataW.trod enc P w base sp held fuel t [v] = some (d, ps)) :
  v = .slice none 0 0 ∨ ∃ (a : Nat × Nat) (n c : Nat), v = .slice (some ⟨a.1, a.2, none⟩) n c ∧ n ≤ c ∧ (c : Int) ≤ 9223372036854775807 ∧ ∃ cs T fz, w.heap[a.1]? = some (.cells cs T fz) ∧
   ∀ k, k < n → ∀ j, j < sz → cs[a.2 + (k * sz + j)]? = some (.int kd (cellI kd w a (k * sz + j))) := by
 rcases DataW.trod_slice ht h with ⟨h1, _⟩ | ⟨a, len, cap, elems, rest, n, rfl, h1, _, _, hlc, _, hel, hat, _, _⟩
 ·left
  simpa using h1
 ·right
  simp only [List.cons.injEq, and_true] at h1
  subst h1
  have hv : len ≤ cap ∧ (cap : Int) ≤ IntKind.i64.max ∧ w.has P r b0 a e cap := by
   unfold Cell.okWide at hval
   rw [ht] at hval
   unfold Cell.ok at hval
   rw [ht] at hval
   exact hval
  obtain ⟨_, hc2, _, hsp, row, cells, hsh, _⟩ := hv
  unfold World.shape? at hsh
  cases hh : w.heap[a.block]? with
  | none => rw [hh] at hsh; cases hsh
  | some o =>
   rw [hh] at hsh
   cases o with
   | map _ _ | loop _ | chan _ | pending _ _ | view _ _ | number _ | stringIter _ _ | mapIter _ _ _ _ | deferred _ | coro _ | finalizers _ => cases hsh
   | cells cs T fz =>
    obtain ⟨ab, ao, asp⟩ := a
    simp only at hsp hh
    subst hsp
    refine ⟨(ab, ao), len, cap, rfl, hlc, by simpa [IntKind.max, IntKind.signed, IntKind.bits] using hc2, cs, T, fz, hh, fun k hk j hj => ?_⟩
    have h2 := hat k hk
    rw [List.getElem?_eq_getElem (by omega)] at h2
    obtain ⟨ys, h3, h4⟩ := Option.bind_eq_some_iff.1 h2
    rw [he.1] at h3
    obtain ⟨zs, hz, hr, rfl⟩ := he.2 _ _ _ h4
    unfold World.cells? at h3
    split at h3
    ·obtain ⟨_, h6⟩ := mapM_get h3
     have h7 := h6 j j (by simp [hj])
     rw [List.getElem?_map, List.getElem?_eq_getElem (by omega)] at h7
     have hin := hr (zs[j]'(by omega)) (List.getElem_mem _)
     have e1 : w.cell? ⟨ab, ao + (k * sz + j), none⟩ = some (.int kd (zs[j]'(by omega))) := by
      simpa [addr_add, he.1, Nat.add_assoc] using h7
     have e2 : cellI kd w (ab, ao) (k * sz + j) = zs[j]'(by omega) := by
      unfold cellI
      rw [e1]
      simp only
      rw [if_pos ⟨rfl, hin⟩]
     rw [e2]
     simpa [World.cell?, hh] using e1
    ·cases h3
end
end Go.Sy
/-
 Types of the ticket package: maps, methods, comparisons.
-/
namespace Go.Proofs.Ytioajogaghgipaa
open Go Go.Sy
set_option maxRecDepth 100000
theorem meth92 (v : Value) (w : World) : (method (Try.prog.types.size + Made.depth) 92 v "dipworks/ticket.is").run Try.prog w = .ok (136, v) w := by kernel_rfl
theorem meth94 (v : Value) (w : World) : (method (Try.prog.types.size + Made.depth) 94 v "dipworks/ticket.is").run Try.prog w = .ok (137, v) w := by kernel_rfl
theorem meth108 (v : Value) (w : World) : (method (Try.prog.types.size + Made.depth) 108 v "dipworks/ticket.is").run Try.prog w = .ok (138, v) w := by kernel_rfl
theorem eqg (t : Nat) (h : Try.prog.eqGuardType Try.prog.depth t = false) (op : BinOp) (x0 y0 : Operand) (xs ys : List Int) (w : World) : (eqGuard op t x0 y0 (intsV xs) (intsV ys)).run Try.prog w = .ok () w := by
 unfold eqGuard intsV
 cases op <;> simp [Sem.run_bind, h]
theorem eqgB (t : Nat) (h : Try.prog.eqGuardType Try.prog.depth t = false) (op : BinOp) (x0 y0 : Operand) (xs ys : List Bool) (w : World) : (eqGuard op t x0 y0 (boolsV xs) (boolsV ys)).run Try.prog w = .ok () w := by
 unfold eqGuard boolsV
 cases op <;> simp [Sem.run_bind, h]
theorem eqIn2 (t : Nat) (ht : Try.prog.underlying t = some (.struct (Try.prog.fieldsOf t))) (hp : Try.prog.stoodInHeld t = false) (n1 n2 : String) (p1 : String) (u1 : n1 ≠ "_") (u2 : n2 ≠ "_")
  (hf : (Try.prog.fieldsOf t).toList = [{ name := n1, type := 3, offset := 0, embedded := false, tag := "", pkgPath := p1, byteOffset := 0 }, { name := n2, type := 3, offset := 1, embedded := false, tag := "", pkgPath := p1, byteOffset := 8 }])
  (d : Nat) (a b a' b' : Int) (w : World) : (Op.equalIn (d + 2) t (.agg #[.int .i64 a, .int .i64 b]) (.agg #[.int .i64 a', .int .i64 b'])).run Try.prog w = .ok (a == a' && b == b') w := by
 have hi := fun (a b : Int) (w : World) => run_equalIn_int (P := Try.prog) w d 3 .i64 .i64 a b Try.underlying3
 have q1 : ∀ (a b : Int), (part 3 #[.int .i64 a, .int .i64 b] 0).run Try.prog w = .ok (.int .i64 a) w := fun a b => by simp [part, Try.isAgg3]
 have q2 : ∀ (a b : Int), (part 3 #[.int .i64 a, .int .i64 b] 1).run Try.prog w = .ok (.int .i64 b) w := fun a b => by simp [part, Try.isAgg3]
 rw [run_equalIn_agg (P := Try.prog) w (d + 1) t _ _ ht hp, hf]
 simp [Op.eqFields, q1, q2, hi, u1, u2]
 cases hx : (a == a') <;> cases hy : (b == b') <;> simp_all
theorem eqIn28 (d : Nat) (a b a' b' : Int) (w : World) : (Op.equalIn (d + 2) 28 (.agg #[.int .i64 a, .int .i64 b]) (.agg #[.int .i64 a', .int .i64 b'])).run Try.prog w = .ok (a == a' && b == b') w := eqIn2 28 (by kernel_rfl) (by kernel_rfl) "Lo" "Hi" "" (by decide) (by decide) (by kernel_rfl) d a b a' b' w
theorem eqIn78 (d : Nat) (a b a' b' : Int) (w : World) : (Op.equalIn (d + 2) 78 (.agg #[.int .i64 a, .int .i64 b]) (.agg #[.int .i64 a', .int .i64 b'])).run Try.prog w = .ok (a == a' && b == b') w := eqIn2 78 (by kernel_rfl) (by kernel_rfl) "bought" "door" "dipworks/ticket" (by decide) (by decide) (by kernel_rfl) d a b a' b' w
theorem eq28 : EqTy Try.prog 28 2 := by
 refine ⟨fun xs ys w hx hy => ?_, eqg 28 (by kernel_rfl)⟩
 match xs, hx, ys, hy with
 | [a, b], _, [a', b'], _ =>
  refine (eqIn28 9998 a b a' b' w).trans ?_
  cases hx : (a == a') <;> cases hy : (b == b') <;> simp_all
theorem eq57 : EqTy Try.prog 57 5 := by
 refine ⟨fun xs ys w hx hy => ?_, eqg 57 (by kernel_rfl)⟩
 match xs, hx, ys, hy with
 | [a, b, c, e, f], _, [a', b', c', e', f'], _ =>
  have hi := fun (a b : Int) => run_equalIn_int (P := Try.prog) w 9998 3 .i64 .i64 a b Try.underlying3
  have hs := fun (a b a' b' : Int) => eqIn28 9997 a b a' b' w
  have ht : Try.prog.underlying 57 = some (.struct (Try.prog.fieldsOf 57)) := by kernel_rfl
  have hp : Try.prog.stoodInHeld 57 = false := by kernel_rfl
  have hf : (Try.prog.fieldsOf 57).toList = [{ name := "Bought", type := 28, offset := 0, embedded := false, tag := "", pkgPath := "", byteOffset := 0 }, { name := "Hut", type := 3, offset := 2, embedded := false, tag := "", pkgPath := "", byteOffset := 16 }, { name := "Door", type := 28, offset := 3, embedded := false, tag := "", pkgPath := "", byteOffset := 24 }] := by kernel_rfl
  have q1 : ∀ (a b c d e : Int), (part 28 #[.int .i64 a, .int .i64 b, .int .i64 c, .int .i64 d, .int .i64 e] 0).run Try.prog w = .ok (.agg #[.int .i64 a, .int .i64 b]) w := fun a b c d e => by simp [part, Try.isAgg28, Try.sizeOf28]
  have q2 : ∀ (a b c d e : Int), (part 3 #[.int .i64 a, .int .i64 b, .int .i64 c, .int .i64 d, .int .i64 e] 2).run Try.prog w = .ok (.int .i64 c) w := fun a b c d e => by simp [part, Try.isAgg3]
  have q3 : ∀ (a b c d e : Int), (part 28 #[.int .i64 a, .int .i64 b, .int .i64 c, .int .i64 d, .int .i64 e] 3).run Try.prog w = .ok (.agg #[.int .i64 d, .int .i64 e]) w := fun a b c d e => by simp [part, Try.isAgg28, Try.sizeOf28]
  have h0 := run_equalIn_agg (P := Try.prog) w 9999 57 #[.int .i64 a, .int .i64 b, .int .i64 c, .int .i64 e, .int .i64 f] #[.int .i64 a', .int .i64 b', .int .i64 c', .int .i64 e', .int .i64 f'] ht hp
  rw [hf] at h0
  refine Eq.trans h0 ?_
  simp [Op.eqFields, q1, q2, q3, hs, hi]
  cases hx : (a == a') <;> cases hy : (b == b') <;> cases hz : (c == c') <;> cases hu : (e == e') <;> cases hv : (f == f') <;> simp_all
theorem eqb89 : EqTyB Try.prog 89 2 := by
 refine ⟨fun xs ys w hx hy => ?_, eqgB 89 (by kernel_rfl)⟩
 match xs, hx, ys, hy with
 | [a, b], _, [a', b'], _ =>
  have hi := fun (a b : Bool) => run_equalIn_bool' (P := Try.prog) w 9998 4 a b Try.underlying4
  have ht : Try.prog.underlying 89 = some (.struct (Try.prog.fieldsOf 89)) := by kernel_rfl
  have hp : Try.prog.stoodInHeld 89 = false := by kernel_rfl
  have hf : (Try.prog.fieldsOf 89).toList = [{ name := "is", type := 4, offset := 0, embedded := false, tag := "", pkgPath := "dipworks/ticket", byteOffset := 0 }, { name := "not", type := 4, offset := 1, embedded := false, tag := "", pkgPath := "dipworks/ticket", byteOffset := 1 }] := by kernel_rfl
  have q1 : ∀ (a b : Bool), (part 4 #[.bool a, .bool b] 0).run Try.prog w = .ok (.bool a) w := fun a b => by simp [part, Try.isAgg4]
  have q2 : ∀ (a b : Bool), (part 4 #[.bool a, .bool b] 1).run Try.prog w = .ok (.bool b) w := fun a b => by simp [part, Try.isAgg4]
  have h0 := run_equalIn_agg (P := Try.prog) w 9999 89 #[.bool a, .bool b] #[.bool a', .bool b'] ht hp
  rw [hf] at h0
  refine Eq.trans h0 ?_
  simp [Op.eqFields, q1, q2, hi]
  cases a <;> cases b <;> cases a' <;> cases b' <;> rfl
theorem eqb59 : EqTyB Try.prog 59 4 := by
 refine ⟨fun xs ys w hx hy => ?_, eqgB 59 (by kernel_rfl)⟩
 match xs, hx, ys, hy with
 | [a, b, c, d], _, [a', b', c', d'], _ =>
  have hi := fun (a b : Bool) => run_equalIn_bool' (P := Try.prog) w 9998 4 a b Try.underlying4
  have q : ∀ (a b c d : Bool), (part 4 #[.bool a, .bool b, .bool c, .bool d] 0).run Try.prog w = .ok (.bool a) w ∧ (part 4 #[.bool a, .bool b, .bool c, .bool d] 1).run Try.prog w = .ok (.bool b) w ∧ (part 4 #[.bool a, .bool b, .bool c, .bool d] 2).run Try.prog w = .ok (.bool c) w ∧ (part 4 #[.bool a, .bool b, .bool c, .bool d] 3).run Try.prog w = .ok (.bool d) w := fun a b c d => by simp [part, Try.isAgg4]
  obtain ⟨q1, q2, q3, q4⟩ := q a b c d
  obtain ⟨r1, r2, r3, r4⟩ := q a' b' c' d'
  have h0 := run_equalIn_array (P := Try.prog) (w := w) 9999 #[.bool a, .bool b, .bool c, .bool d] #[.bool a', .bool b', .bool c', .bool d'] Try.underlying59 (i := Try.t4) (by kernel_rfl)
  have hc : Try.prog.cellsOf 4 = 1 := by kernel_rfl
  refine Eq.trans h0 ?_
  rw [show List.range 4 = [0, 1, 2, 3] from rfl, hc]
  simp [Op.eqItems, q1, q2, q3, q4, r1, r2, r3, r4, hi]
  cases a <;> cases b <;> cases c <;> cases d <;> cases a' <;> cases b' <;> cases c' <;> cases d' <;> rfl
def g100 : GShape := ⟨.row, 10, .bit, 1⟩
theorem chk80 (b : Bool) (x0 x1 x2 x3 x4 x5 x6 x7 x8 x9 : Int) (w : World) : (Instr.checkKey b 10000 80 (intsV [x0, x1, x2, x3, x4, x5, x6, x7, x8, x9])).run Try.prog w = .ok () w := by
 kernel_rfl
theorem part80_0 (x0 x1 x2 x3 x4 x5 x6 x7 x8 x9 : Int) (w : World) : (part 78 #[.int .i64 x0, .int .i64 x1, .int .i64 x2, .int .i64 x3, .int .i64 x4, .int .i64 x5, .int .i64 x6, .int .i64 x7, .int .i64 x8, .int .i64 x9] 0).run Try.prog w = .ok (.agg #[.int .i64 x0, .int .i64 x1]) w := by simp [part, Try.isAgg78, Try.sizeOf78]
theorem part80_1 (x0 x1 x2 x3 x4 x5 x6 x7 x8 x9 : Int) (w : World) : (part 78 #[.int .i64 x0, .int .i64 x1, .int .i64 x2, .int .i64 x3, .int .i64 x4, .int .i64 x5, .int .i64 x6, .int .i64 x7, .int .i64 x8, .int .i64 x9] 2).run Try.prog w = .ok (.agg #[.int .i64 x2, .int .i64 x3]) w := by simp [part, Try.isAgg78, Try.sizeOf78]
theorem part80_2 (x0 x1 x2 x3 x4 x5 x6 x7 x8 x9 : Int) (w : World) : (part 78 #[.int .i64 x0, .int .i64 x1, .int .i64 x2, .int .i64 x3, .int .i64 x4, .int .i64 x5, .int .i64 x6, .int .i64 x7, .int .i64 x8, .int .i64 x9] 4).run Try.prog w = .ok (.agg #[.int .i64 x4, .int .i64 x5]) w := by simp [part, Try.isAgg78, Try.sizeOf78]
theorem part80_3 (x0 x1 x2 x3 x4 x5 x6 x7 x8 x9 : Int) (w : World) : (part 78 #[.int .i64 x0, .int .i64 x1, .int .i64 x2, .int .i64 x3, .int .i64 x4, .int .i64 x5, .int .i64 x6, .int .i64 x7, .int .i64 x8, .int .i64 x9] 6).run Try.prog w = .ok (.agg #[.int .i64 x6, .int .i64 x7]) w := by simp [part, Try.isAgg78, Try.sizeOf78]
theorem part80_4 (x0 x1 x2 x3 x4 x5 x6 x7 x8 x9 : Int) (w : World) : (part 78 #[.int .i64 x0, .int .i64 x1, .int .i64 x2, .int .i64 x3, .int .i64 x4, .int .i64 x5, .int .i64 x6, .int .i64 x7, .int .i64 x8, .int .i64 x9] 8).run Try.prog w = .ok (.agg #[.int .i64 x8, .int .i64 x9]) w := by simp [part, Try.isAgg78, Try.sizeOf78]
theorem eq80 (x0 x1 x2 x3 x4 x5 x6 x7 x8 x9 y0 y1 y2 y3 y4 y5 y6 y7 y8 y9 : Int) (w : World) : (Op.equal 80 (intsV [x0, x1, x2, x3, x4, x5, x6, x7, x8, x9]) (intsV [y0, y1, y2, y3, y4, y5, y6, y7, y8, y9])).run Try.prog w = .ok (decide ([x0, x1, x2, x3, x4, x5, x6, x7, x8, x9] = [y0, y1, y2, y3, y4, y5, y6, y7, y8, y9])) w := by
 have hs := fun (a b a' b' : Int) => eqIn78 9997 a b a' b'
 have h0 := run_equalIn_array (P := Try.prog) (w := w) 9999 #[.int .i64 x0, .int .i64 x1, .int .i64 x2, .int .i64 x3, .int .i64 x4, .int .i64 x5, .int .i64 x6, .int .i64 x7, .int .i64 x8, .int .i64 x9] #[.int .i64 y0, .int .i64 y1, .int .i64 y2, .int .i64 y3, .int .i64 y4, .int .i64 y5, .int .i64 y6, .int .i64 y7, .int .i64 y8, .int .i64 y9] Try.underlying80 (i := Try.t78) (by kernel_rfl)
 have hc : Try.prog.cellsOf 78 = 2 := by kernel_rfl
 refine Eq.trans h0 ?_
 rw [show List.range 5 = [0, 1, 2, 3, 4] from rfl, hc]
 simp only [Op.eqItems, Nat.zero_mul, Nat.one_mul, Nat.reduceMul]

 rw [Sem.run_bind, part80_0, Result.andThen_ok, Sem.run_bind, part80_0, Result.andThen_ok, Sem.run_bind, hs, Result.andThen_ok]
 by_cases e0 : x0 = y0 ∧ x1 = y1
 case neg =>
  have eb : (x0 == y0 && x1 == y1) = false := by
   rw [Bool.eq_false_iff]
   intro h
   simp only [Bool.and_eq_true, beq_iff_eq] at h
   exact e0 h
  rw [eb]
  simp only [Bool.not_false, if_true, Sem.run_pure]
  rw [decide_eq_false]
  intro h
  simp only [List.cons.injEq, and_true] at h
  exact e0 ⟨by simp only [h], by simp only [h]⟩
 have eb0 : (x0 == y0 && x1 == y1) = true := by simp [e0.1, e0.2]
 rw [eb0]
 simp only [Bool.not_true, Bool.false_eq_true, if_false]
 rw [Sem.run_bind, part80_1, Result.andThen_ok, Sem.run_bind, part80_1, Result.andThen_ok, Sem.run_bind, hs, Result.andThen_ok]
 by_cases e1 : x2 = y2 ∧ x3 = y3
 case neg =>
  have eb : (x2 == y2 && x3 == y3) = false := by
   rw [Bool.eq_false_iff]
   intro h
   simp only [Bool.and_eq_true, beq_iff_eq] at h
   exact e1 h
  rw [eb]
  simp only [Bool.not_false, if_true, Sem.run_pure]
  rw [decide_eq_false]
  intro h
  simp only [List.cons.injEq, and_true] at h
  exact e1 ⟨by simp only [h], by simp only [h]⟩
 have eb1 : (x2 == y2 && x3 == y3) = true := by simp [e1.1, e1.2]
 rw [eb1]
 simp only [Bool.not_true, Bool.false_eq_true, if_false]
 rw [Sem.run_bind, part80_2, Result.andThen_ok, Sem.run_bind, part80_2, Result.andThen_ok, Sem.run_bind, hs, Result.andThen_ok]
 by_cases e2 : x4 = y4 ∧ x5 = y5
 case neg =>
  have eb : (x4 == y4 && x5 == y5) = false := by
   rw [Bool.eq_false_iff]
   intro h
   simp only [Bool.and_eq_true, beq_iff_eq] at h
   exact e2 h
  rw [eb]
  simp only [Bool.not_false, if_true, Sem.run_pure]
  rw [decide_eq_false]
  intro h
  simp only [List.cons.injEq, and_true] at h
  exact e2 ⟨by simp only [h], by simp only [h]⟩
 have eb2 : (x4 == y4 && x5 == y5) = true := by simp [e2.1, e2.2]
 rw [eb2]
 simp only [Bool.not_true, Bool.false_eq_true, if_false]
 rw [Sem.run_bind, part80_3, Result.andThen_ok, Sem.run_bind, part80_3, Result.andThen_ok, Sem.run_bind, hs, Result.andThen_ok]
 by_cases e3 : x6 = y6 ∧ x7 = y7
 case neg =>
  have eb : (x6 == y6 && x7 == y7) = false := by
   rw [Bool.eq_false_iff]
   intro h
   simp only [Bool.and_eq_true, beq_iff_eq] at h
   exact e3 h
  rw [eb]
  simp only [Bool.not_false, if_true, Sem.run_pure]
  rw [decide_eq_false]
  intro h
  simp only [List.cons.injEq, and_true] at h
  exact e3 ⟨by simp only [h], by simp only [h]⟩
 have eb3 : (x6 == y6 && x7 == y7) = true := by simp [e3.1, e3.2]
 rw [eb3]
 simp only [Bool.not_true, Bool.false_eq_true, if_false]
 rw [Sem.run_bind, part80_4, Result.andThen_ok, Sem.run_bind, part80_4, Result.andThen_ok, Sem.run_bind, hs, Result.andThen_ok]
 by_cases e4 : x8 = y8 ∧ x9 = y9
 case neg =>
  have eb : (x8 == y8 && x9 == y9) = false := by
   rw [Bool.eq_false_iff]
   intro h
   simp only [Bool.and_eq_true, beq_iff_eq] at h
   exact e4 h
  rw [eb]
  simp only [Bool.not_false, if_true, Sem.run_pure]
  rw [decide_eq_false]
  intro h
  simp only [List.cons.injEq, and_true] at h
  exact e4 ⟨by simp only [h], by simp only [h]⟩
 have eb4 : (x8 == y8 && x9 == y9) = true := by simp [e4.1, e4.2]
 rw [eb4]
 simp only [Bool.not_true, Bool.false_eq_true, if_false]
 rw [decide_eq_true (by simp [e0.1, e0.2, e1.1, e1.2, e2.1, e2.2, e3.1, e3.2, e4.1, e4.2])]
 rfl
theorem gm100 : GMapTy Try.prog 100 g100 := by
 refine ⟨80, 4, Try.underlying100, fun w => Try.zeroValue4 w, _, Try.underlying80, fun a b => rfl, fun b ks w hl => ?_, fun ks ks' w hl hl' => ?_⟩
 ·match ks, hl with
  | [x0, x1, x2, x3, x4, x5, x6, x7, x8, x9], _ => exact chk80 b x0 x1 x2 x3 x4 x5 x6 x7 x8 x9 w
 ·match ks, hl, ks', hl' with
  | [x0, x1, x2, x3, x4, x5, x6, x7, x8, x9], _, [y0, y1, y2, y3, y4, y5, y6, y7, y8, y9], _ => exact eq80 ..
end Go.Proofs.Ytioajogaghgipaa
