/-
  Parts: Mm.
-/
import Derived.Test.YtioajogaghgipaaP2
import Derived.Test.YtioajogaghgipaaProg
import Derived.Laws.StructEq
import Derived.ChangeKeysEq
import Derived.KernelRfl
set_option linter.unusedVariables false
/-
 Types of the ticket package: maps, methods, comparisons.
-/
namespace Go.Proofs.Ytioajogaghgipaa
open Go Go.Sy
set_option maxRecDepth 100000
theorem meth92 (v : Value) (w : World) : (method (Try.prog.types.size + Made.depth) 92 v "dipworks/ticket.is").run Try.prog w = .ok (136, v) w := by kernel_rfl
theorem meth94 (v : Value) (w : World) : (method (Try.prog.types.size + Made.depth) 94 v "dipworks/ticket.is").run Try.prog w = .ok (137, v) w := by kernel_rfl
theorem meth108 (v : Value) (w : World) : (method (Try.prog.types.size + Made.depth) 108 v "dipworks/ticket.is").run Try.prog w = .ok (138, v) w := by kernel_rfl
theorem eqg (t : Nat) (h : Try.prog.eqGuardType Try.prog.depth t = false) (op : BinOp) (x0 y0 : Operand) (xs ys : List Int) (w : World) : (eqGuard op t x0 y0 (intsV xs) (intsV ys)).run Try.prog w = .ok () w := by
 unfold eqGuard intsV
 cases op <;> simp [Sem.run_bind, h]
theorem eqgB (t : Nat) (h : Try.prog.eqGuardType Try.prog.depth t = false) (op : BinOp) (x0 y0 : Operand) (xs ys : List Bool) (w : World) : (eqGuard op t x0 y0 (boolsV xs) (boolsV ys)).run Try.prog w = .ok () w := by
 unfold eqGuard boolsV
 cases op <;> simp [Sem.run_bind, h]
theorem eqIn2 (t : Nat) (ht : Try.prog.underlying t = some (.struct (Try.prog.fieldsOf t))) (hp : Try.prog.stoodInHeld t = false) (n1 n2 : String) (p1 : String) (u1 : n1 ≠ "_") (u2 : n2 ≠ "_")
  (hf : (Try.prog.fieldsOf t).toList = [{ name := n1, type := 3, offset := 0, embedded := false, tag := "", pkgPath := p1, byteOffset := 0 }, { name := n2, type := 3, offset := 1, embedded := false, tag := "", pkgPath := p1, byteOffset := 8 }])
  (d : Nat) (a b a' b' : Int) (w : World) : (Op.equalIn (d + 2) t (.agg #[.int .i64 a, .int .i64 b]) (.agg #[.int .i64 a', .int .i64 b'])).run Try.prog w = .ok (a == a' && b == b') w := by
 have hi := fun (a b : Int) (w : World) => run_equalIn_int (P := Try.prog) w d 3 .i64 .i64 a b Try.underlying3
 have q1 : ∀ (a b : Int), (part 3 #[.int .i64 a, .int .i64 b] 0).run Try.prog w = .ok (.int .i64 a) w := fun a b => by simp [part, Try.isAgg3]
 have q2 : ∀ (a b : Int), (part 3 #[.int .i64 a, .int .i64 b] 1).run Try.prog w = .ok (.int .i64 b) w := fun a b => by simp [part, Try.isAgg3]
 rw [run_equalIn_agg (P := Try.prog) w (d + 1) t _ _ ht hp, hf]
 simp [Op.eqFields, q1, q2, hi, u1, u2]
 cases hx : (a == a') <;> cases hy : (b == b') <;> simp_all
theorem eqIn28 (d : Nat) (a b a' b' : Int) (w : World) : (Op.equalIn (d + 2) 28 (.agg #[.int .i64 a, .int .i64 b]) (.agg #[.int .i64 a', .int .i64 b'])).run Try.prog w = .ok (a == a' && b == b') w := eqIn2 28 (by kernel_rfl) (by kernel_rfl) "Lo" "Hi" "" (by decide) (by decide) (by kernel_rfl) d a b a' b' w
theorem eqIn78 (d : Nat) (a b a' b' : Int) (w : World) : (Op.equalIn (d + 2) 78 (.agg #[.int .i64 a, .int .i64 b]) (.agg #[.int .i64 a', .int .i64 b'])).run Try.prog w = .ok (a == a' && b == b') w := eqIn2 78 (by kernel_rfl) (by kernel_rfl) "bought" "door" "dipworks/ticket" (by decide) (by decide) (by kernel_rfl) d a b a' b' w
theorem eq28 : EqTy Try.prog 28 2 := by
 refine ⟨fun xs ys w hx hy => ?_, eqg 28 (by kernel_rfl)⟩
 match xs, hx, ys, hy with
 | [a, b], _, [a', b'], _ =>
  refine (eqIn28 9998 a b a' b' w).trans ?_
  cases hx : (a == a') <;> cases hy : (b == b') <;> simp_all
theorem eq57 : EqTy Try.prog 57 5 := by
 refine ⟨fun xs ys w hx hy => ?_, eqg 57 (by kernel_rfl)⟩
 match xs, hx, ys, hy with
 | [a, b, c, e, f], _, [a', b', c', e', f'], _ =>
  have hi := fun (a b : Int) => run_equalIn_int (P := Try.prog) w 9998 3 .i64 .i64 a b Try.underlying3
  have hs := fun (a b a' b' : Int) => eqIn28 9997 a b a' b' w
  have ht : Try.prog.underlying 57 = some (.struct (Try.prog.fieldsOf 57)) := by kernel_rfl
  have hp : Try.prog.stoodInHeld 57 = false := by kernel_rfl
  have hf : (Try.prog.fieldsOf 57).toList = [{ name := "Bought", type := 28, offset := 0, embedded := false, tag := "", pkgPath := "", byteOffset := 0 }, { name := "Hut", type := 3, offset := 2, embedded := false, tag := "", pkgPath := "", byteOffset := 16 }, { name := "Door", type := 28, offset := 3, embedded := false, tag := "", pkgPath := "", byteOffset := 24 }] := by kernel_rfl
  have q1 : ∀ (a b c d e : Int), (part 28 #[.int .i64 a, .int .i64 b, .int .i64 c, .int .i64 d, .int .i64 e] 0).run Try.prog w = .ok (.agg #[.int .i64 a, .int .i64 b]) w := fun a b c d e => by simp [part, Try.isAgg28, Try.sizeOf28]
  have q2 : ∀ (a b c d e : Int), (part 3 #[.int .i64 a, .int .i64 b, .int .i64 c, .int .i64 d, .int .i64 e] 2).run Try.prog w = .ok (.int .i64 c) w := fun a b c d e => by simp [part, Try.isAgg3]
  have q3 : ∀ (a b c d e : Int), (part 28 #[.int .i64 a, .int .i64 b, .int .i64 c, .int .i64 d, .int .i64 e] 3).run Try.prog w = .ok (.agg #[.int .i64 d, .int .i64 e]) w := fun a b c d e => by simp [part, Try.isAgg28, Try.sizeOf28]
  have h0 := run_equalIn_agg (P := Try.prog) w 9999 57 #[.int .i64 a, .int .i64 b, .int .i64 c, .int .i64 e, .int .i64 f] #[.int .i64 a', .int .i64 b', .int .i64 c', .int .i64 e', .int .i64 f'] ht hp
  rw [hf] at h0
  refine Eq.trans h0 ?_
  simp [Op.eqFields, q1, q2, q3, hs, hi]
  cases hx : (a == a') <;> cases hy : (b == b') <;> cases hz : (c == c') <;> cases hu : (e == e') <;> cases hv : (f == f') <;> simp_all
theorem eqb89 : EqTyB Try.prog 89 2 := by
 refine ⟨fun xs ys w hx hy => ?_, eqgB 89 (by kernel_rfl)⟩
 match xs, hx, ys, hy with
 | [a, b], _, [a', b'], _ =>
  have hi := fun (a b : Bool) => run_equalIn_bool' (P := Try.prog) w 9998 4 a b Try.underlying4
  have ht : Try.prog.underlying 89 = some (.struct (Try.prog.fieldsOf 89)) := by kernel_rfl
  have hp : Try.prog.stoodInHeld 89 = false := by kernel_rfl
  have hf : (Try.prog.fieldsOf 89).toList = [{ name := "is", type := 4, offset := 0, embedded := false, tag := "", pkgPath := "dipworks/ticket", byteOffset := 0 }, { name := "not", type := 4, offset := 1, embedded := false, tag := "", pkgPath := "dipworks/ticket", byteOffset := 1 }] := by kernel_rfl
  have q1 : ∀ (a b : Bool), (part 4 #[.bool a, .bool b] 0).run Try.prog w = .ok (.bool a) w := fun a b => by simp [part, Try.isAgg4]
  have q2 : ∀ (a b : Bool), (part 4 #[.bool a, .bool b] 1).run Try.prog w = .ok (.bool b) w := fun a b => by simp [part, Try.isAgg4]
  have h0 := run_equalIn_agg (P := Try.prog) w 9999 89 #[.bool a, .bool b] #[.bool a', .bool b'] ht hp
  rw [hf] at h0
  refine Eq.trans h0 ?_
  simp [Op.eqFields, q1, q2, hi]
  cases a <;> cases b <;> cases a' <;> cases b' <;> rfl
theorem eqb59 : EqTyB Try.prog 59 4 := by
 refine ⟨fun xs ys w hx hy => ?_, eqgB 59 (by kernel_rfl)⟩
 match xs, hx, ys, hy with
 | [a, b, c, d], _, [a', b', c', d'], _ =>
  have hi := fun (a b : Bool) => run_equalIn_bool' (P := Try.prog) w 9998 4 a b Try.underlying4
  have q : ∀ (a b c d : Bool), (part 4 #[.bool a, .bool b, .bool c, .bool d] 0).run Try.prog w = .ok (.bool a) w ∧ (part 4 #[.bool a, .bool b, .bool c, .bool d] 1).run Try.prog w = .ok (.bool b) w ∧ (part 4 #[.bool a, .bool b, .bool c, .bool d] 2).run Try.prog w = .ok (.bool c) w ∧ (part 4 #[.bool a, .bool b, .bool c, .bool d] 3).run Try.prog w = .ok (.bool d) w := fun a b c d => by simp [part, Try.isAgg4]
  obtain ⟨q1, q2, q3, q4⟩ := q a b c d
  obtain ⟨r1, r2, r3, r4⟩ := q a' b' c' d'
  have h0 := run_equalIn_array (P := Try.prog) (w := w) 9999 #[.bool a, .bool b, .bool c, .bool d] #[.bool a', .bool b', .bool c', .bool d'] Try.underlying59 (i := Try.t4) (by kernel_rfl)
  have hc : Try.prog.cellsOf 4 = 1 := by kernel_rfl
  refine Eq.trans h0 ?_
  rw [show List.range 4 = [0, 1, 2, 3] from rfl, hc]
  simp [Op.eqItems, q1, q2, q3, q4, r1, r2, r3, r4, hi]
  cases a <;> cases b <;> cases c <;> cases d <;> cases a' <;> cases b' <;> cases c' <;> cases d' <;> rfl
def g100 : GShape := ⟨.row, 10, .bit, 1⟩
theorem chk80 (b : Bool) (x0 x1 x2 x3 x4 x5 x6 x7 x8 x9 : Int) (w : World) : (Instr.checkKey b 10000 80 (intsV [x0, x1, x2, x3, x4, x5, x6, x7, x8, x9])).run Try.prog w = .ok () w := by
 kernel_rfl
theorem part80_0 (x0 x1 x2 x3 x4 x5 x6 x7 x8 x9 : Int) (w : World) : (part 78 #[.int .i64 x0, .int .i64 x1, .int .i64 x2, .int .i64 x3, .int .i64 x4, .int .i64 x5, .int .i64 x6, .int .i64 x7, .int .i64 x8, .int .i64 x9] 0).run Try.prog w = .ok (.agg #[.int .i64 x0, .int .i64 x1]) w := by simp [part, Try.isAgg78, Try.sizeOf78]
theorem part80_1 (x0 x1 x2 x3 x4 x5 x6 x7 x8 x9 : Int) (w : World) : (part 78 #[.int .i64 x0, .int .i64 x1, .int .i64 x2, .int .i64 x3, .int .i64 x4, .int .i64 x5, .int .i64 x6, .int .i64 x7, .int .i64 x8, .int .i64 x9] 2).run Try.prog w = .ok (.agg #[.int .i64 x2, .int .i64 x3]) w := by simp [part, Try.isAgg78, Try.sizeOf78]
theorem part80_2 (x0 x1 x2 x3 x4 x5 x6 x7 x8 x9 : Int) (w : World) : (part 78 #[.int .i64 x0, .int .i64 x1, .int .i64 x2, .int .i64 x3, .int .i64 x4, .int .i64 x5, .int .i64 x6, .int .i64 x7, .int .i64 x8, .int .i64 x9] 4).run Try.prog w = .ok (.agg #[.int .i64 x4, .int .i64 x5]) w := by simp [part, Try.isAgg78, Try.sizeOf78]
theorem part80_3 (x0 x1 x2 x3 x4 x5 x6 x7 x8 x9 : Int) (w : World) : (part 78 #[.int .i64 x0, .int .i64 x1, .int .i64 x2, .int .i64 x3, .int .i64 x4, .int .i64 x5, .int .i64 x6, .int .i64 x7, .int .i64 x8, .int .i64 x9] 6).run Try.prog w = .ok (.agg #[.int .i64 x6, .int .i64 x7]) w := by simp [part, Try.isAgg78, Try.sizeOf78]
theorem part80_4 (x0 x1 x2 x3 x4 x5 x6 x7 x8 x9 : Int) (w : World) : (part 78 #[.int .i64 x0, .int .i64 x1, .int .i64 x2, .int .i64 x3, .int .i64 x4, .int .i64 x5, .int .i64 x6, .int .i64 x7, .int .i64 x8, .int .i64 x9] 8).run Try.prog w = .ok (.agg #[.int .i64 x8, .int .i64 x9]) w := by simp [part, Try.isAgg78, Try.sizeOf78]
theorem eq80 (x0 x1 x2 x3 x4 x5 x6 x7 x8 x9 y0 y1 y2 y3 y4 y5 y6 y7 y8 y9 : Int) (w : World) : (Op.equal 80 (intsV [x0, x1, x2, x3, x4, x5, x6, x7, x8, x9]) (intsV [y0, y1, y2, y3, y4, y5, y6, y7, y8, y9])).run Try.prog w = .ok (decide ([x0, x1, x2, x3, x4, x5, x6, x7, x8, x9] = [y0, y1, y2, y3, y4, y5, y6, y7, y8, y9])) w := by
 have hs := fun (a b a' b' : Int) => eqIn78 9997 a b a' b'
 have h0 := run_equalIn_array (P := Try.prog) (w := w) 9999 #[.int .i64 x0, .int .i64 x1, .int .i64 x2, .int .i64 x3, .int .i64 x4, .int .i64 x5, .int .i64 x6, .int .i64 x7, .int .i64 x8, .int .i64 x9] #[.int .i64 y0, .int .i64 y1, .int .i64 y2, .int .i64 y3, .int .i64 y4, .int .i64 y5, .int .i64 y6, .int .i64 y7, .int .i64 y8, .int .i64 y9] Try.underlying80 (i := Try.t78) (by kernel_rfl)
 have hc : Try.prog.cellsOf 78 = 2 := by kernel_rfl
 refine Eq.trans h0 ?_
 rw [show List.range 5 = [0, 1, 2, 3, 4] from rfl, hc]
 simp only [Op.eqItems, Nat.zero_mul, Nat.one_mul, Nat.reduceMul]

 rw [Sem.run_bind, part80_0, Result.andThen_ok, Sem.run_bind, part80_0, Result.andThen_ok, Sem.run_bind, hs, Result.andThen_ok]
 by_cases e0 : x0 = y0 ∧ x1 = y1
 case neg =>
  have eb : (x0 == y0 && x1 == y1) = false := by
   rw [Bool.eq_false_iff]
   intro h
   simp only [Bool.and_eq_true, beq_iff_eq] at h
   exact e0 h
  rw [eb]
  simp only [Bool.not_false, if_true, Sem.run_pure]
  rw [decide_eq_false]
  intro h
  simp only [List.cons.injEq, and_true] at h
  exact e0 ⟨by simp only [h], by simp only [h]⟩
 have eb0 : (x0 == y0 && x1 == y1) = true := by simp [e0.1, e0.2]
 rw [eb0]
 simp only [Bool.not_true, Bool.false_eq_true, if_false]
 rw [Sem.run_bind, part80_1, Result.andThen_ok, Sem.run_bind, part80_1, Result.andThen_ok, Sem.run_bind, hs, Result.andThen_ok]
 by_cases e1 : x2 = y2 ∧ x3 = y3
 case neg =>
  have eb : (x2 == y2 && x3 == y3) = false := by
   rw [Bool.eq_false_iff]
   intro h
   simp only [Bool.and_eq_true, beq_iff_eq] at h
   exact e1 h
  rw [eb]
  simp only [Bool.not_false, if_true, Sem.run_pure]
  rw [decide_eq_false]
  intro h
  simp only [List.cons.injEq, and_true] at h
  exact e1 ⟨by simp only [h], by simp only [h]⟩
 have eb1 : (x2 == y2 && x3 == y3) = true := by simp [e1.1, e1.2]
 rw [eb1]
 simp only [Bool.not_true, Bool.false_eq_true, if_false]
 rw [Sem.run_bind, part80_2, Result.andThen_ok, Sem.run_bind, part80_2, Result.andThen_ok, Sem.run_bind, hs, Result.andThen_ok]
 by_cases e2 : x4 = y4 ∧ x5 = y5
 case neg =>
  have eb : (x4 == y4 && x5 == y5) = false := by
   rw [Bool.eq_false_iff]
   intro h
   simp only [Bool.and_eq_true, beq_iff_eq] at h
   exact e2 h
  rw [eb]
  simp only [Bool.not_false, if_true, Sem.run_pure]
  rw [decide_eq_false]
  intro h
  simp only [List.cons.injEq, and_true] at h
  exact e2 ⟨by simp only [h], by simp only [h]⟩
 have eb2 : (x4 == y4 && x5 == y5) = true := by simp [e2.1, e2.2]
 rw [eb2]
 simp only [Bool.not_true, Bool.false_eq_true, if_false]
 rw [Sem.run_bind, part80_3, Result.andThen_ok, Sem.run_bind, part80_3, Result.andThen_ok, Sem.run_bind, hs, Result.andThen_ok]
 by_cases e3 : x6 = y6 ∧ x7 = y7
 case neg =>
  have eb : (x6 == y6 && x7 == y7) = false := by
   rw [Bool.eq_false_iff]
   intro h
   simp only [Bool.and_eq_true, beq_iff_eq] at h
   exact e3 h
  rw [eb]
  simp only [Bool.not_false, if_true, Sem.run_pure]
  rw [decide_eq_false]
  intro h
  simp only [List.cons.injEq, and_true] at h
  exact e3 ⟨by simp only [h], by simp only [h]⟩
 have eb3 : (x6 == y6 && x7 == y7) = true := by simp [e3.1, e3.2]
 rw [eb3]
 simp only [Bool.not_true, Bool.false_eq_true, if_false]
 rw [Sem.run_bind, part80_4, Result.andThen_ok, Sem.run_bind, part80_4, Result.andThen_ok, Sem.run_bind, hs, Result.andThen_ok]
 by_cases e4 : x8 = y8 ∧ x9 = y9
 case neg =>
  have eb : (x8 == y8 && x9 == y9) = false := by
   rw [Bool.eq_false_iff]
   intro h
   simp only [Bool.and_eq_true, beq_iff_eq] at h
   exact e4 h
  rw [eb]
  simp only [Bool.not_false, if_true, Sem.run_pure]
  rw [decide_eq_false]
  intro h
  simp only [List.cons.injEq, and_true] at h
  exact e4 ⟨by simp only [h], by simp only [h]⟩
 have eb4 : (x8 == y8 && x9 == y9) = true := by simp [e4.1, e4.2]
 rw [eb4]
 simp only [Bool.not_true, Bool.false_eq_true, if_false]
 rw [decide_eq_true (by simp [e0.1, e0.2, e1.1, e1.2, e2.1, e2.2, e3.1, e3.2, e4.1, e4.2])]
 rfl
theorem gm100 : GMapTy Try.prog 100 g100 := by
 refine ⟨80, 4, Try.underlying100, fun w => Try.zeroValue4 w, _, Try.underlying80, fun a b => rfl, fun b ks w hl => ?_, fun ks ks' w hl hl' => ?_⟩
 ·match ks, hl with
  | [x0, x1, x2, x3, x4, x5, x6, x7, x8, x9], _ => exact chk80 b x0 x1 x2 x3 x4 x5 x6 x7 x8 x9 w
 ·match ks, hl, ks', hl' with
  | [x0, x1, x2, x3, x4, x5, x6, x7, x8, x9], _, [y0, y1, y2, y3, y4, y5, y6, y7, y8, y9], _ => exact eq80 ..
end Go.Proofs.Ytioajogaghgipaa
