/-
  Parts: Sy26, Sy27, Mm.
-/
import Derived.Test.YtipbempkngfdbaaGreatDoorK10
import Derived.Test.YtipbempkngfdbaaGreatDoorK3
import Derived.Test.YtipbempkngfdbaaGreatDoorProg
import Derived.Laws.StructEq
import Derived.KernelRfl
set_option linter.unusedVariables false
/-
  Sy26: values and blocks said in another way that denotes the same. No program is named.
-/
namespace Go.Sy

def fcC (ce : CE) (k : CE → Prop) : Prop :=
  match ce with
  | .ret v => fcW v fun v => k (.ret v)
  | .panic v => fcW v fun v => k (.panic v)
theorem fcC_eq (ce : CE) (k : CE → Prop) : fcC ce k = k ce := by
  cases ce <;> simp [fcC, fcW_eq]
/-- A contract with choices, in a greater heap; what comes of it is made whole. -/
theorem CallP.frameH {P : Program} {f : FuncId} {a0 args : List SV} {h0 h : SHeap} {K0 K : CE → SHeap → Prop} (hc : CallP P f a0 h0 K0) (σ : List Nat)
    (hf : Fits (sig σ h.length) h σ h0) (ha : renL (sig σ h.length) a0 = args)
    (hk : ∀ ce h', K0 ce h' → ownB h0 h' = true ∧ fcH (updH σ h h0 h') fun H => fcC (renC (sig σ h.length) ce) fun ce => K ce H)
    (hap : apartB σ h0 = true := by rfl) : CallP P f args h K :=
  CallP.frame hc σ hf (apartB_ok hap) ha fun ce h' hK => by
    obtain ⟨h1, h2⟩ := hk ce h' hK
    rw [fcH_eq, fcC_eq] at h2
    exact ⟨ownB_ok h1, h2⟩
theorem CallP.argsD {P : Program} {f : FuncId} {args args' : List SV} {h : SHeap} {K : CE → SHeap → Prop} (hd : ∀ η, denL η args = denL η args') (hc : CallP P f args' h K) : CallP P f args h K :=
  fun η φ w0 Ef w vs hs hv => hc η φ w0 Ef w vs hs (by rw [← hd]; exact hv)
theorem YieldP.argsD {P : Program} {i : Nat} {args args' : List SV} {h : SHeap} {K : CE → SHeap → Prop} (hd : ∀ η, denL η args = denL η args') (hc : YieldP P i args' h K) : YieldP P i args h K :=
  fun η φ w0 Ef w vs hs hv => hc η φ w0 Ef w vs hs (by rw [← hd]; exact hv)
theorem den_slice (η : Nam) (i sz l c : Nat) : den η (.slice i sz 0 l c) = den η (.osl true i sz l c) := by
  simp [den]
/-- One value handed back, said otherwise. -/
theorem entV {n : Nat} {v v' : SV} {H : SHeap} {D : List SV} (h : ∀ η, den η v = den η v') : Ent n ⟨[some (none, v)], H, D⟩ ⟨[some (none, v')], H, D⟩ := by
  intro η φ w0 Ef w a hn hs hT hD
  refine ⟨η, φ, fun _ _ => rfl, hn, hs, ⟨hT.1, fun k g sv hk => ?_⟩, hD⟩
  cases k with
  | zero =>
    simp only [List.getElem?_cons_zero, Option.some.injEq, Prod.mk.injEq] at hk
    obtain ⟨rfl, rfl⟩ := hk
    refine ⟨fun _ => ?_, fun hf => by cases hf⟩
    obtain ⟨u, h1, h2⟩ := (hT.2 0 none v rfl).1 rfl
    exact ⟨u, by rw [← h]; exact h1, h2⟩
  | succ k => simp at hk
/-- What is left to do behind a range over a function, if a round returned. -/
theorem codeP_ret {P : Program} {r : Option Nat} {n : Nat} {s : St} {K : SE → St → Prop} (h : K .ret s) : CodeP P r n .ret s K :=
  fun _ _ _ _ _ _ _ h1 h2 h3 h4 h5 => wpIn_ret (Post.ex h rfl ⟨h1, h2, h3, h4, h5⟩)
theorem CodeP.pre {P : Program} {r : Option Nat} {n : Nat} {c : Code} {s t : St} {K : SE → St → Prop} (he : Ent n s t) (hc : CodeP P r n c t K) : CodeP P r n c s K := by
  intro η0 η φ w0 Ef w a h1 h2 h3 h4 h5
  obtain ⟨η', φ', p1, p2, p3, p4, p5⟩ := he η φ w0 Ef w a h2 h3 h4 h5
  exact hc η0 η' φ' w0 Ef w a (fun i hi => (p1 i hi).trans (h1 i hi)) p2 p3 p4 p5
/-- In front of a region that draws, or a loop, the state is said otherwise. -/
theorem cutP {P : Program} {r : Option Nat} {n : Nat} {c : Code} {s : St} {K : SE → St → Prop} (keep : List Nat) (vars : List (Nat × SV)) (heap : SHeap → SHeap) (he : Ent n s ⟨mkT keep vars 0 s.T, heap s.H, s.D⟩)
    (hc : fcSt s fun s => fcSt ⟨mkT keep vars 0 s.T, heap s.H, s.D⟩ fun t => CodeP P r n c t K) : CodeP P r n c s K := by
  rw [fcSt_eq, fcSt_eq] at hc
  exact CodeP.pre he hc
/-- Fewer elements are spoken of. -/
theorem entCut {n : Nat} {T : Tm} {H : SHeap} {D : List SV} {i sz m m' cap : Nat} {get get' : Nat → List SV} (hi : H[i]? = some (some (.arr sz m cap get))) (hm : m' ≤ m) (hg : ∀ k, k < m' → get k = get' k) : Ent n ⟨T, H, D⟩ ⟨T, H.set i (some (.arr sz m' cap get')), D⟩ := by
  intro η φ w0 Ef w a hn hs hT hD
  refine ⟨η, φ, fun _ _ => rfl, by simpa using hn, hs.less hi (fun _ _ hb => hb) (fun _ => rfl) (fun ad hh => ?_), hT, hD⟩
  obtain ⟨h0, Ty, c, h1, h2, h3, h4⟩ := hh
  exact ⟨h0, Ty, c, h1, h2, by omega, fun k hk => by rw [← hg k hk]; exact h4 k (by omega)⟩
end Go.Sy
/-
  Code that is walked up to some place, and said anew there.
-/
namespace Go.Sy
open Go
set_option maxRecDepth 100000

/-- The next part of a function, walked by itself. -/
theorem CodeP.part {P : Program} {r : Option Nat} {n : Nat} {c : Code} {s t : St} {K : SE → St → Prop} (hc : CodeP P r n c t K) (he : Ent n s t) : CodeP P r n c s (fun se s => fcP [] fun ob => AllP ob ∧ K se s) :=
  CodeP.pre he (hc.mono fun se s h => by rw [fcP_eq]; exact ⟨trivial, h⟩)
end Go.Sy
/-
  The map that a shore remembers heights of water in: its keys, its elements.
-/
namespace Go.Proofs.YtipbempkngfdbaaGreatDoor
open Go Go.Sy
set_option maxRecDepth 100000
theorem memo81_chk (b : Bool) (x y z u v : Int) (w : World) : (Instr.checkKey b 10000 112 (intsV [x, y, z, u, v])).run Tryz.prog w = .ok () w := by
  kernel_rfl
theorem memo81_arr (d : Nat) (x y z u x' y' z' u' : Int) (w : World) : (Op.equalIn (d + 2) 60 (.agg #[.int .i64 x, .int .i64 y, .int .i64 z, .int .i64 u]) (.agg #[.int .i64 x', .int .i64 y', .int .i64 z', .int .i64 u'])).run Tryz.prog w = .ok (x == x' && (y == y' && (z == z' && u == u'))) w := by
  have hi := fun (a b : Int) (w : World) => run_equalIn_int (P := Tryz.prog) w d 3 .i64 .i64 a b Tryz.underlying3
  have hp : ∀ (cs : Array Value) (i : Nat) (v : Value) (w : World), cs[i]? = some v → (part 3 cs i).run Tryz.prog w = .ok v w := fun cs i v w h => by
    simp [part, Tryz.isAgg3, h]
  rw [Op.equalIn, Sem.run_bind, Tryz.runUnderlying60]
  simp only [Result.andThen_ok, Sem.run_bind, Tryz.sizeOf3]
  rw [show ([0:4] : Std.Legacy.Range) = [0:4] from rfl]
  simp [Std.Legacy.Range.forIn_eq_forIn_range', List.range', hi, hp, Sem.run_bind]
  cases hx : (x == x') <;> cases hy : (y == y') <;> cases hz : (z == z') <;> cases hu : (u == u') <;> simp_all
theorem memo81_eq (x y z u v x' y' z' u' v' : Int) (w : World) : (Op.equal 112 (intsV [x, y, z, u, v]) (intsV [x', y', z', u', v'])).run Tryz.prog w = .ok (decide ([x, y, z, u, v] = [x', y', z', u', v'])) w := by
  have ht : Tryz.prog.underlying 112 = some (.struct (Tryz.prog.fieldsOf 112)) := by kernel_rfl
  have hp : Tryz.prog.stoodInHeld 112 = false := by kernel_rfl
  have hf : (Tryz.prog.fieldsOf 112).toList = [{ name := "heights", type := 60, offset := 0, embedded := true, tag := "", pkgPath := "dipworks/tide", byteOffset := 0 }, { name := "minute", type := 3, offset := 4, embedded := false, tag := "", pkgPath := "dipworks/tide", byteOffset := 32 }] := by kernel_rfl
  have h0 := run_equalIn_agg (P := Tryz.prog) w 9999 112 #[.int .i64 x, .int .i64 y, .int .i64 z, .int .i64 u, .int .i64 v] #[.int .i64 x', .int .i64 y', .int .i64 z', .int .i64 u', .int .i64 v'] ht hp
  rw [hf] at h0
  have ha := memo81_arr 9997 x y z u x' y' z' u' w
  have hi := run_equalIn_int (P := Tryz.prog) w 9998 3 .i64 .i64 v v' Tryz.underlying3
  have h1 : ∀ (a b c d e : Int), (part 60 #[.int .i64 a, .int .i64 b, .int .i64 c, .int .i64 d, .int .i64 e] 0).run Tryz.prog w = .ok (.agg #[.int .i64 a, .int .i64 b, .int .i64 c, .int .i64 d]) w := fun a b c d e => by
    simp [part, Tryz.isAgg60, Tryz.sizeOf60]
  have h2 : ∀ (a b c d e : Int), (part 3 #[.int .i64 a, .int .i64 b, .int .i64 c, .int .i64 d, .int .i64 e] 4).run Tryz.prog w = .ok (.int .i64 e) w := fun a b c d e => by
    simp [part, Tryz.isAgg3]
  have goal : (Op.equal 112 (intsV [x, y, z, u, v]) (intsV [x', y', z', u', v'])).run Tryz.prog w = (Op.equalIn (9999 + 1) 112 (.agg #[.int .i64 x, .int .i64 y, .int .i64 z, .int .i64 u, .int .i64 v]) (.agg #[.int .i64 x', .int .i64 y', .int .i64 z', .int .i64 u', .int .i64 v'])).run Tryz.prog w := rfl
  rw [goal, h0]
  simp [Op.eqFields, h1, h2, ha, hi]
  cases hx : (x == x') <;> cases hy : (y == y') <;> cases hz : (z == z') <;> cases hu : (u == u') <;> cases hv : (v == v') <;> simp_all
theorem memo81 : MemoTy Tryz.prog 79 5 := by
  refine ⟨112, 3, _, Tryz.underlying79, Tryz.underlying112, fun a b => by rfl, fun w => Tryz.zeroValue3 w, ?_, ?_⟩
  · intro b ks w hl
    match ks, hl with
    | [x, y, z, u, v], _ => exact memo81_chk b x y z u v w
  · intro ks ks' w hl hl'
    match ks, hl, ks', hl' with
    | [x, y, z, u, v], _, [x', y', z', u', v'], _ => exact memo81_eq ..
theorem cm116 : CMapTy Tryz.prog 82 := ⟨3, 3, Tryz.underlying82, Tryz.underlying3, fun w => Tryz.zeroValue3 w⟩
theorem meth155 (v : Value) (w : World) : (method (Tryz.prog.types.size + Made.depth) 135 v "dipworks/tide.fits").run Tryz.prog w = .ok (121, v) w := by kernel_rfl
theorem meth159 (v : Value) (w : World) : (method (Tryz.prog.types.size + Made.depth) 139 v "dipworks/tide.fits").run Tryz.prog w = .ok (122, v) w := by kernel_rfl
theorem ahead155 (v : Value) (w : World) : (nilAhead (Tryz.prog.types.size + Made.depth) 135 v "dipworks/tide.fits").run Tryz.prog w = .ok (some false) w := by kernel_rfl
theorem ahead159 (v : Value) (w : World) : (nilAhead (Tryz.prog.types.size + Made.depth) 139 v "dipworks/tide.fits").run Tryz.prog w = .ok (some false) w := by kernel_rfl
theorem eqg (t : Nat) (h : Tryz.prog.eqGuardType Tryz.prog.depth t = false) (op : BinOp) (x0 y0 : Operand) (xs ys : List Int) (w : World) : (eqGuard op t x0 y0 (intsV xs) (intsV ys)).run Tryz.prog w = .ok () w := by
  unfold eqGuard intsV
  cases op <;> simp [Sem.run_bind, h]
theorem part41a (a b : Int) (w : World) : (part 3 #[.int .i64 a, .int .i64 b] 0).run Tryz.prog w = .ok (.int .i64 a) w := by simp [part, Tryz.isAgg3]
theorem part41b (a b : Int) (w : World) : (part 3 #[.int .i64 a, .int .i64 b] 1).run Tryz.prog w = .ok (.int .i64 b) w := by simp [part, Tryz.isAgg3]
theorem eqIn41 (d : Nat) (a b a' b' : Int) (w : World) : (Op.equalIn (d + 2) 30 (.agg #[.int .i64 a, .int .i64 b]) (.agg #[.int .i64 a', .int .i64 b'])).run Tryz.prog w = .ok (a == a' && b == b') w := by
  have hi := fun (a b : Int) (w : World) => run_equalIn_int (P := Tryz.prog) w d 3 .i64 .i64 a b Tryz.underlying3
  have ht : Tryz.prog.underlying 30 = some (.struct (Tryz.prog.fieldsOf 30)) := by kernel_rfl
  have hp : Tryz.prog.stoodInHeld 30 = false := by kernel_rfl
  have hf : (Tryz.prog.fieldsOf 30).toList = [{ name := "Lo", type := 3, offset := 0, embedded := false, tag := "", pkgPath := "", byteOffset := 0 }, { name := "Hi", type := 3, offset := 1, embedded := false, tag := "", pkgPath := "", byteOffset := 8 }] := by kernel_rfl
  rw [run_equalIn_agg (P := Tryz.prog) w (d + 1) 30 _ _ ht hp, hf]
  simp [Op.eqFields, part41a, part41b, hi]
  cases hx : (a == a') <;> cases hy : (b == b') <;> simp_all
theorem eq41 : EqTy Tryz.prog 30 2 := by
  refine ⟨fun xs ys w hx hy => ?_, eqg 30 (by kernel_rfl)⟩
  match xs, hx, ys, hy with
  | [a, b], _, [a', b'], _ =>
    refine (eqIn41 9998 a b a' b' w).trans ?_
    cases hx : (a == a') <;> cases hy : (b == b') <;> simp_all
theorem eq54 : EqTy Tryz.prog 43 3 := by
  refine ⟨fun xs ys w hx hy => ?_, eqg 43 (by kernel_rfl)⟩
  match xs, hx, ys, hy with
  | [a, b, c], _, [a', b', c'], _ =>
    have hi := fun (a b : Int) => run_equalIn_int (P := Tryz.prog) w 9998 3 .i64 .i64 a b Tryz.underlying3
    have hs := eqIn41 9997 b c b' c' w
    have ht : Tryz.prog.underlying 43 = some (.struct (Tryz.prog.fieldsOf 43)) := by kernel_rfl
    have hp : Tryz.prog.stoodInHeld 43 = false := by kernel_rfl
    have hf : (Tryz.prog.fieldsOf 43).toList = [{ name := "Minute", type := 3, offset := 0, embedded := false, tag := "", pkgPath := "", byteOffset := 0 }, { name := "Height", type := 30, offset := 1, embedded := false, tag := "", pkgPath := "", byteOffset := 8 }] := by kernel_rfl
    have p1 : ∀ (a b c : Int), (part 3 #[.int .i64 a, .int .i64 b, .int .i64 c] 0).run Tryz.prog w = .ok (.int .i64 a) w := fun a b c => by simp [part, Tryz.isAgg3]
    have p2 : ∀ (a b c : Int), (part 30 #[.int .i64 a, .int .i64 b, .int .i64 c] 1).run Tryz.prog w = .ok (.agg #[.int .i64 b, .int .i64 c]) w := fun a b c => by simp [part, Tryz.isAgg30, Tryz.sizeOf30]
    have h0 := run_equalIn_agg (P := Tryz.prog) w 9999 43 #[.int .i64 a, .int .i64 b, .int .i64 c] #[.int .i64 a', .int .i64 b', .int .i64 c'] ht hp
    rw [hf] at h0
    refine Eq.trans (show (Op.equal 43 (intsV [a, b, c]) (intsV [a', b', c'])).run Tryz.prog w = (Op.equalIn (9999 + 1) 43 (.agg #[.int .i64 a, .int .i64 b, .int .i64 c]) (.agg #[.int .i64 a', .int .i64 b', .int .i64 c'])).run Tryz.prog w from rfl) (h0.trans ?_)
    simp [Op.eqFields, p1, p2, hs, hi]
    cases hx : (a == a') <;> cases hy : (b == b') <;> cases hz : (c == c') <;> simp_all
theorem eq62 : EqTy Tryz.prog 96 4 := by
  refine ⟨fun xs ys w hx hy => ?_, eqg 96 (by kernel_rfl)⟩
  match xs, hx, ys, hy with
  | [a, b, c, d], _, [a', b', c', d'], _ =>
    have hi := fun (a b : Int) => run_equalIn_int (P := Tryz.prog) w 9998 3 .i64 .i64 a b Tryz.underlying3
    have hs := eqIn41 9997 c d c' d' w
    have ht : Tryz.prog.underlying 96 = some (.struct (Tryz.prog.fieldsOf 96)) := by kernel_rfl
    have hp : Tryz.prog.stoodInHeld 96 = false := by kernel_rfl
    have hf : (Tryz.prog.fieldsOf 96).toList = [{ name := "Place", type := 3, offset := 0, embedded := false, tag := "", pkgPath := "", byteOffset := 0 }, { name := "Minute", type := 3, offset := 1, embedded := false, tag := "", pkgPath := "", byteOffset := 8 }, { name := "Depth", type := 30, offset := 2, embedded := false, tag := "", pkgPath := "", byteOffset := 16 }] := by kernel_rfl
    have p1 : ∀ (a b c d : Int), (part 3 #[.int .i64 a, .int .i64 b, .int .i64 c, .int .i64 d] 0).run Tryz.prog w = .ok (.int .i64 a) w := fun a b c d => by simp [part, Tryz.isAgg3]
    have p2 : ∀ (a b c d : Int), (part 3 #[.int .i64 a, .int .i64 b, .int .i64 c, .int .i64 d] 1).run Tryz.prog w = .ok (.int .i64 b) w := fun a b c d => by simp [part, Tryz.isAgg3]
    have p3 : ∀ (a b c d : Int), (part 30 #[.int .i64 a, .int .i64 b, .int .i64 c, .int .i64 d] 2).run Tryz.prog w = .ok (.agg #[.int .i64 c, .int .i64 d]) w := fun a b c d => by simp [part, Tryz.isAgg30, Tryz.sizeOf30]
    have h0 := run_equalIn_agg (P := Tryz.prog) w 9999 96 #[.int .i64 a, .int .i64 b, .int .i64 c, .int .i64 d] #[.int .i64 a', .int .i64 b', .int .i64 c', .int .i64 d'] ht hp
    rw [hf] at h0
    refine Eq.trans (show (Op.equal 96 (intsV [a, b, c, d]) (intsV [a', b', c', d'])).run Tryz.prog w = (Op.equalIn (9999 + 1) 96 (.agg #[.int .i64 a, .int .i64 b, .int .i64 c, .int .i64 d]) (.agg #[.int .i64 a', .int .i64 b', .int .i64 c', .int .i64 d'])).run Tryz.prog w from rfl) (h0.trans ?_)
    simp [Op.eqFields, p1, p2, p3, hs, hi]
    cases hx : (a == a') <;> cases hy : (b == b') <;> cases hz : (c == c') <;> cases hu : (d == d') <;> simp_all
end Go.Proofs.YtipbempkngfdbaaGreatDoor
