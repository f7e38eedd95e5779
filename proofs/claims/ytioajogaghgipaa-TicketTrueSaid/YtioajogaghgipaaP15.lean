/-
  Parts: E.
-/
import Derived.Test.YtioajogaghgipaaP9
import Derived.Test.YtioajogaghgipaaP14
import Derived.Test.YtioajogaghgipaaProg
set_option linter.unusedVariables false
/-
 The tables of types and functions, as the layer Sy reads them, and the proof that they tell the truth.
-/
set_option maxRecDepth 100000
namespace Go.Proofs.Ytioajogaghgipaa
open Go Go.Sy

def nth {α : Type} : List (Option α) → Nat → Option α
 | [], _ => none
 | x :: _, 0 => x
 | _ :: xs, n + 1 => nth xs n
def AllTy (P : Program) : Nat → List (Option TI) → Prop
 | _, [] => True
 | k, x :: xs => (∀ i, x = some i → TyOk P k i) ∧ AllTy P (k + 1) xs
theorem nth_ty {P : Program} : ∀ {l : List (Option TI)} {k t : Nat} {i : TI}, AllTy P k l → nth l t = some i → TyOk P (k + t) i
 | [], _, _, _, _, h => by cases h
 | x :: xs, k, 0, i, h, e => h.1 i e
 | x :: xs, k, t + 1, i, h, e => by
  have := nth_ty (t := t) h.2 e
  rwa [Nat.add_assoc, Nat.add_comm 1] at this
def AllFn (P : Program) : Nat → List (Option Unit) → Prop
 | _, [] => True
 | k, x :: xs => (x = some () → ∃ f, P.funcs[k]? = some f ∧ f.body.isSome = true ∧ (f.name == "runtime.NumGoroutine") = false) ∧ AllFn P (k + 1) xs
theorem nth_fn {P : Program} : ∀ {l : List (Option Unit)} {k t : Nat}, AllFn P k l → nth l t = some () → ∃ f, P.funcs[k + t]? = some f ∧ f.body.isSome = true ∧ (f.name == "runtime.NumGoroutine") = false
 | [], _, _, _, h => by cases h
 | x :: xs, k, 0, h, e => h.1 e
 | x :: xs, k, t + 1, h, e => by
  have := nth_fn (t := t) h.2 e
  rwa [Nat.add_assoc, Nat.add_comm 1] at this
theorem info_of {t : Nat} {i : TypeInfo} (h : Try.prog.types[t]? = some i) : Try.prog.info? t = some i := by
 have hl : t < Try.prog.types.size := by
  rcases Nat.lt_or_ge t Try.prog.types.size with hl | hl
  ·exact hl
  ·rw [Array.getElem?_eq_none hl] at h; cases h
 show Tables.info? Try.prog.toTables t = some i
 unfold Tables.info?
 rw [if_pos hl]; exact h

def ti1 : TI := ⟨Go.TypeDesc.func #[] #[] false, 1, 8, .fnil⟩
theorem ti1_ok : TyOk Try.prog 1 ti1 := ⟨Try.underlying1, ⟨Try.t1, _, info_of Try.type1, rfl, rfl, rfl, fun _ => rfl, rfl⟩⟩
def ti2 : TI := ⟨Go.TypeDesc.int Go.IntKind.i64, 1, 8, .int .i64 0⟩
theorem ti2_ok : TyOk Try.prog 2 ti2 := ⟨Try.underlying2, ⟨Try.t2, _, info_of Try.type2, rfl, rfl, rfl, fun _ => rfl, rfl⟩⟩
def ti3 : TI := ⟨Go.TypeDesc.int Go.IntKind.i64, 1, 8, .int .i64 0⟩
theorem ti3_ok : TyOk Try.prog 3 ti3 := ⟨Try.underlying3, ⟨Try.t3, _, info_of Try.type3, rfl, rfl, rfl, fun _ => rfl, rfl⟩⟩
def ti4 : TI := ⟨Go.TypeDesc.bool, 1, 1, .bool false⟩
theorem ti4_ok : TyOk Try.prog 4 ti4 := ⟨Try.underlying4, ⟨Try.t4, _, info_of Try.type4, rfl, rfl, rfl, fun _ => rfl, rfl⟩⟩
def ti5 : TI := ⟨Go.TypeDesc.int Go.IntKind.u8, 1, 1, .int .u8 0⟩
theorem ti5_ok : TyOk Try.prog 5 ti5 := ⟨Try.underlying5, ⟨Try.t5, _, info_of Try.type5, rfl, rfl, rfl, fun _ => rfl, rfl⟩⟩
def ti6 : TI := ⟨Go.TypeDesc.int Go.IntKind.u8, 1, 1, .int .u8 0⟩
theorem ti6_ok : TyOk Try.prog 6 ti6 := ⟨Try.underlying6, ⟨Try.t6, _, info_of Try.type6, rfl, rfl, rfl, fun _ => rfl, rfl⟩⟩
def ti7 : TI := ⟨Go.TypeDesc.struct #[{ name := "x", type := 2, offset := 0, embedded := false, tag := "", pkgPath := "runtime", byteOffset := 0 }, { name := "y", type := 3, offset := 1, embedded := false, tag := "", pkgPath := "runtime", byteOffset := 8 }, { name := "signed", type := 4, offset := 2, embedded := false, tag := "", pkgPath := "runtime", byteOffset := 16 }, { name := "code", type := 6, offset := 3, embedded := false, tag := "", pkgPath := "runtime", byteOffset := 17 }], 4, 24, .agg [.int .i64 0, .int .i64 0, .bool false, .int .u8 0]⟩
theorem ti7_ok : TyOk Try.prog 7 ti7 := ⟨Try.underlying7, ⟨Try.t7, _, info_of Try.type7, rfl, rfl, rfl, fun _ => rfl, rfl⟩⟩
def ti8 : TI := ⟨Go.TypeDesc.struct #[{ name := "x", type := 2, offset := 0, embedded := false, tag := "", pkgPath := "runtime", byteOffset := 0 }, { name := "y", type := 3, offset := 1, embedded := false, tag := "", pkgPath := "runtime", byteOffset := 8 }, { name := "signed", type := 4, offset := 2, embedded := false, tag := "", pkgPath := "runtime", byteOffset := 16 }, { name := "code", type := 6, offset := 3, embedded := false, tag := "", pkgPath := "runtime", byteOffset := 17 }], 4, 24, .agg [.int .i64 0, .int .i64 0, .bool false, .int .u8 0]⟩
theorem ti8_ok : TyOk Try.prog 8 ti8 := ⟨Try.underlying8, ⟨Try.t8, _, info_of Try.type8, rfl, rfl, rfl, fun _ => rfl, rfl⟩⟩
def ti9 : TI := ⟨Go.TypeDesc.string, 1, 16, .str ({ data := #[] })⟩
theorem ti9_ok : TyOk Try.prog 9 ti9 := ⟨Try.underlying9, ⟨Try.t9, _, info_of Try.type9, rfl, rfl, rfl, fun _ => rfl, rfl⟩⟩
def ti10 : TI := ⟨Go.TypeDesc.string, 1, 16, .str ({ data := #[] })⟩
theorem ti10_ok : TyOk Try.prog 10 ti10 := ⟨Try.underlying10, ⟨Try.t10, _, info_of Try.type10, rfl, rfl, rfl, fun _ => rfl, rfl⟩⟩
def ti11 : TI := ⟨Go.TypeDesc.string, 1, 16, .str ({ data := #[] })⟩
theorem ti11_ok : TyOk Try.prog 11 ti11 := ⟨Try.underlying11, ⟨Try.t11, _, info_of Try.type11, rfl, rfl, rfl, fun _ => rfl, rfl⟩⟩
def ti12 : TI := ⟨Go.TypeDesc.int Go.IntKind.u64, 1, 8, .int .u64 0⟩
theorem ti12_ok : TyOk Try.prog 12 ti12 := ⟨Try.underlying12, ⟨Try.t12, _, info_of Try.type12, rfl, rfl, rfl, fun _ => rfl, rfl⟩⟩
def ti13 : TI := ⟨Go.TypeDesc.struct #[{ name := "msg", type := 9, offset := 0, embedded := false, tag := "", pkgPath := "runtime", byteOffset := 0 }, { name := "addr", type := 12, offset := 1, embedded := false, tag := "", pkgPath := "runtime", byteOffset := 16 }], 2, 24, .agg [.str ({ data := #[] }), .int .u64 0]⟩
theorem ti13_ok : TyOk Try.prog 13 ti13 := ⟨Try.underlying13, ⟨Try.t13, _, info_of Try.type13, rfl, rfl, rfl, fun _ => rfl, rfl⟩⟩
def ti14 : TI := ⟨Go.TypeDesc.struct #[{ name := "msg", type := 9, offset := 0, embedded := false, tag := "", pkgPath := "runtime", byteOffset := 0 }, { name := "addr", type := 12, offset := 1, embedded := false, tag := "", pkgPath := "runtime", byteOffset := 16 }], 2, 24, .agg [.str ({ data := #[] }), .int .u64 0]⟩
theorem ti14_ok : TyOk Try.prog 14 ti14 := ⟨Try.underlying14, ⟨Try.t14, _, info_of Try.type14, rfl, rfl, rfl, fun _ => rfl, rfl⟩⟩
def ti15 : TI := ⟨Go.TypeDesc.pointer 158, 1, 8, .pnil⟩
theorem ti15_ok : TyOk Try.prog 15 ti15 := ⟨Try.underlying15, ⟨Try.t15, _, info_of Try.type15, rfl, rfl, rfl, fun _ => rfl, rfl⟩⟩
def ti16 : TI := ⟨Go.TypeDesc.pointer 161, 1, 8, .pnil⟩
theorem ti16_ok : TyOk Try.prog 16 ti16 := ⟨Try.underlying16, ⟨Try.t16, _, info_of Try.type16, rfl, rfl, rfl, fun _ => rfl, rfl⟩⟩
def ti17 : TI := ⟨Go.TypeDesc.pointer 169, 1, 8, .pnil⟩
theorem ti17_ok : TyOk Try.prog 17 ti17 := ⟨Try.underlying17, ⟨Try.t17, _, info_of Try.type17, rfl, rfl, rfl, fun _ => rfl, rfl⟩⟩
def ti18 : TI := ⟨Go.TypeDesc.struct #[{ name := "typ", type := 17, offset := 0, embedded := false, tag := "", pkgPath := "internal/runtime/maps", byteOffset := 0 }], 1, 8, .agg [.pnil]⟩
theorem ti18_ok : TyOk Try.prog 18 ti18 := ⟨Try.underlying18, ⟨Try.t18, _, info_of Try.type18, rfl, rfl, rfl, fun _ => rfl, rfl⟩⟩
def ti19 : TI := ⟨Go.TypeDesc.struct #[{ name := "typ", type := 17, offset := 0, embedded := false, tag := "", pkgPath := "internal/runtime/maps", byteOffset := 0 }], 1, 8, .agg [.pnil]⟩
theorem ti19_ok : TyOk Try.prog 19 ti19 := ⟨Try.underlying19, ⟨Try.t19, _, info_of Try.type19, rfl, rfl, rfl, fun _ => rfl, rfl⟩⟩
def ti20 : TI := ⟨Go.TypeDesc.interface #[], 1, 16, .inil⟩
theorem ti20_ok : TyOk Try.prog 20 ti20 := ⟨Try.underlying20, ⟨Try.t20, _, info_of Try.type20, rfl, rfl, rfl, fun _ => rfl, rfl⟩⟩
def ti21 : TI := ⟨Go.TypeDesc.int Go.IntKind.i32, 1, 4, .int .i32 0⟩
theorem ti21_ok : TyOk Try.prog 21 ti21 := ⟨Try.underlying21, ⟨Try.t21, _, info_of Try.type21, rfl, rfl, rfl, fun _ => rfl, rfl⟩⟩
def ti22 : TI := ⟨Go.TypeDesc.slice 57, 1, 24, .snil⟩
theorem ti22_ok : TyOk Try.prog 22 ti22 := ⟨Try.underlying22, ⟨Try.t22, _, info_of Try.type22, rfl, rfl, rfl, fun _ => rfl, rfl⟩⟩
def ti23 : TI := ⟨Go.TypeDesc.struct #[{ name := "Huts", type := 3, offset := 0, embedded := false, tag := "", pkgPath := "", byteOffset := 0 }, { name := "Tickets", type := 22, offset := 1, embedded := false, tag := "", pkgPath := "", byteOffset := 8 }], 2, 32, .agg [.int .i64 0, .snil]⟩
theorem ti23_ok : TyOk Try.prog 23 ti23 := ⟨Try.underlying23, ⟨Try.t23, _, info_of Try.type23, rfl, rfl, rfl, fun _ => rfl, rfl⟩⟩
def ti24 : TI := ⟨Go.TypeDesc.struct #[{ name := "Huts", type := 3, offset := 0, embedded := false, tag := "", pkgPath := "", byteOffset := 0 }, { name := "Tickets", type := 22, offset := 1, embedded := false, tag := "", pkgPath := "", byteOffset := 8 }], 2, 32, .agg [.int .i64 0, .snil]⟩
theorem ti24_ok : TyOk Try.prog 24 ti24 := ⟨Try.underlying24, ⟨Try.t24, _, info_of Try.type24, rfl, rfl, rfl, fun _ => rfl, rfl⟩⟩
def ti25 : TI := ⟨Go.TypeDesc.func #[24, 3] #[4] false, 1, 8, .fnil⟩
theorem ti25_ok : TyOk Try.prog 25 ti25 := ⟨Try.underlying25, ⟨Try.t25, _, info_of Try.type25, rfl, rfl, rfl, fun _ => rfl, rfl⟩⟩
def ti26 : TI := ⟨Go.TypeDesc.func #[] #[4] false, 1, 8, .fnil⟩
theorem ti26_ok : TyOk Try.prog 26 ti26 := ⟨Try.underlying26, ⟨Try.t26, _, info_of Try.type26, rfl, rfl, rfl, fun _ => rfl, rfl⟩⟩
def ti27 : TI := ⟨Go.TypeDesc.struct #[{ name := "Lo", type := 3, offset := 0, embedded := false, tag := "", pkgPath := "", byteOffset := 0 }, { name := "Hi", type := 3, offset := 1, embedded := false, tag := "", pkgPath := "", byteOffset := 8 }], 2, 16, .agg [.int .i64 0, .int .i64 0]⟩
theorem ti27_ok : TyOk Try.prog 27 ti27 := ⟨Try.underlying27, ⟨Try.t27, _, info_of Try.type27, rfl, rfl, rfl, fun _ => rfl, rfl⟩⟩
def ti28 : TI := ⟨Go.TypeDesc.struct #[{ name := "Lo", type := 3, offset := 0, embedded := false, tag := "", pkgPath := "", byteOffset := 0 }, { name := "Hi", type := 3, offset := 1, embedded := false, tag := "", pkgPath := "", byteOffset := 8 }], 2, 16, .agg [.int .i64 0, .int .i64 0]⟩
theorem ti28_ok : TyOk Try.prog 28 ti28 := ⟨Try.underlying28, ⟨Try.t28, _, info_of Try.type28, rfl, rfl, rfl, fun _ => rfl, rfl⟩⟩
def ti29 : TI := ⟨Go.TypeDesc.int Go.IntKind.i64, 1, 8, .int .i64 0⟩
theorem ti29_ok : TyOk Try.prog 29 ti29 := ⟨Try.underlying29, ⟨Try.t29, _, info_of Try.type29, rfl, rfl, rfl, fun _ => rfl, rfl⟩⟩
def ti31 : TI := ⟨Go.TypeDesc.func #[24, 3] #[28, 28, 29] false, 1, 8, .fnil⟩
theorem ti31_ok : TyOk Try.prog 31 ti31 := ⟨Try.underlying31, ⟨Try.t31, _, info_of Try.type31, rfl, rfl, rfl, fun _ => rfl, rfl⟩⟩
def ti33 : TI := ⟨Go.TypeDesc.func #[24, 3] #[3, 29] false, 1, 8, .fnil⟩
theorem ti33_ok : TyOk Try.prog 33 ti33 := ⟨Try.underlying33, ⟨Try.t33, _, info_of Try.type33, rfl, rfl, rfl, fun _ => rfl, rfl⟩⟩
def ti35 : TI := ⟨Go.TypeDesc.func #[24, 3] #[3, 3, 29] false, 1, 8, .fnil⟩
theorem ti35_ok : TyOk Try.prog 35 ti35 := ⟨Try.underlying35, ⟨Try.t35, _, info_of Try.type35, rfl, rfl, rfl, fun _ => rfl, rfl⟩⟩
def ti37 : TI := ⟨Go.TypeDesc.func #[24, 3] #[3, 4, 29] false, 1, 8, .fnil⟩
theorem ti37_ok : TyOk Try.prog 37 ti37 := ⟨Try.underlying37, ⟨Try.t37, _, info_of Try.type37, rfl, rfl, rfl, fun _ => rfl, rfl⟩⟩
def ti38 : TI := ⟨Go.TypeDesc.func #[24, 3, 3] #[3, 29] false, 1, 8, .fnil⟩
theorem ti38_ok : TyOk Try.prog 38 ti38 := ⟨Try.underlying38, ⟨Try.t38, _, info_of Try.type38, rfl, rfl, rfl, fun _ => rfl, rfl⟩⟩
def ti39 : TI := ⟨Go.TypeDesc.func #[24, 3, 3, 3] #[4] false, 1, 8, .fnil⟩
theorem ti39_ok : TyOk Try.prog 39 ti39 := ⟨Try.underlying39, ⟨Try.t39, _, info_of Try.type39, rfl, rfl, rfl, fun _ => rfl, rfl⟩⟩
def ti41 : TI := ⟨Go.TypeDesc.func #[24] #[28, 29] false, 1, 8, .fnil⟩
theorem ti41_ok : TyOk Try.prog 41 ti41 := ⟨Try.underlying41, ⟨Try.t41, _, info_of Try.type41, rfl, rfl, rfl, fun _ => rfl, rfl⟩⟩
def ti42 : TI := ⟨Go.TypeDesc.func #[24] #[3, 29] false, 1, 8, .fnil⟩
theorem ti42_ok : TyOk Try.prog 42 ti42 := ⟨Try.underlying42, ⟨Try.t42, _, info_of Try.type42, rfl, rfl, rfl, fun _ => rfl, rfl⟩⟩
def ti43 : TI := ⟨Go.TypeDesc.func #[24] #[4] false, 1, 8, .fnil⟩
theorem ti43_ok : TyOk Try.prog 43 ti43 := ⟨Try.underlying43, ⟨Try.t43, _, info_of Try.type43, rfl, rfl, rfl, fun _ => rfl, rfl⟩⟩
def ti44 : TI := ⟨Go.TypeDesc.func #[3] #[24] false, 1, 8, .fnil⟩
theorem ti44_ok : TyOk Try.prog 44 ti44 := ⟨Try.underlying44, ⟨Try.t44, _, info_of Try.type44, rfl, rfl, rfl, fun _ => rfl, rfl⟩⟩
def ti45 : TI := ⟨Go.TypeDesc.struct #[{ name := "minute", type := 3, offset := 0, embedded := false, tag := "", pkgPath := "dipworks/dipworkslaw03", byteOffset := 0 }, { name := "set", type := 3, offset := 1, embedded := false, tag := "", pkgPath := "dipworks/dipworkslaw03", byteOffset := 8 }, { name := "nobody", type := 4, offset := 2, embedded := false, tag := "", pkgPath := "dipworks/dipworkslaw03", byteOffset := 16 }], 3, 24, .agg [.int .i64 0, .int .i64 0, .bool false]⟩
theorem ti45_ok : TyOk Try.prog 45 ti45 := ⟨Try.underlying45, ⟨Try.t45, _, info_of Try.type45, rfl, rfl, rfl, fun _ => rfl, rfl⟩⟩
def ti46 : TI := ⟨Go.TypeDesc.slice 45, 1, 24, .snil⟩
theorem ti46_ok : TyOk Try.prog 46 ti46 := ⟨Try.underlying46, ⟨Try.t46, _, info_of Try.type46, rfl, rfl, rfl, fun _ => rfl, rfl⟩⟩
def ti47 : TI := ⟨Go.TypeDesc.func #[3, 3] #[28] false, 1, 8, .fnil⟩
theorem ti47_ok : TyOk Try.prog 47 ti47 := ⟨Try.underlying47, ⟨Try.t47, _, info_of Try.type47, rfl, rfl, rfl, fun _ => rfl, rfl⟩⟩
def ti48 : TI := ⟨Go.TypeDesc.slice 121, 1, 24, .snil⟩
theorem ti48_ok : TyOk Try.prog 48 ti48 := ⟨Try.underlying48, ⟨Try.t48, _, info_of Try.type48, rfl, rfl, rfl, fun _ => rfl, rfl⟩⟩
def ti49 : TI := ⟨Go.TypeDesc.func #[3] #[3] false, 1, 8, .fnil⟩
theorem ti49_ok : TyOk Try.prog 49 ti49 := ⟨Try.underlying49, ⟨Try.t49, _, info_of Try.type49, rfl, rfl, rfl, fun _ => rfl, rfl⟩⟩
def ti50 : TI := ⟨Go.TypeDesc.func #[48] #[49] false, 1, 8, .fnil⟩
theorem ti50_ok : TyOk Try.prog 50 ti50 := ⟨Try.underlying50, ⟨Try.t50, _, info_of Try.type50, rfl, rfl, rfl, fun _ => rfl, rfl⟩⟩
def ti51 : TI := ⟨Go.TypeDesc.slice 3, 1, 24, .snil⟩
theorem ti51_ok : TyOk Try.prog 51 ti51 := ⟨Try.underlying51, ⟨Try.t51, _, info_of Try.type51, rfl, rfl, rfl, fun _ => rfl, rfl⟩⟩
def ti53 : TI := ⟨Go.TypeDesc.func #[49] #[24, 51, 51] false, 1, 8, .fnil⟩
theorem ti53_ok : TyOk Try.prog 53 ti53 := ⟨Try.underlying53, ⟨Try.t53, _, info_of Try.type53, rfl, rfl, rfl, fun _ => rfl, rfl⟩⟩
def ti54 : TI := ⟨Go.TypeDesc.func #[3, 28] #[4] false, 1, 8, .fnil⟩
theorem ti54_ok : TyOk Try.prog 54 ti54 := ⟨Try.underlying54, ⟨Try.t54, _, info_of Try.type54, rfl, rfl, rfl, fun _ => rfl, rfl⟩⟩
def ti55 : TI := ⟨Go.TypeDesc.func #[51, 3, 3] #[4] false, 1, 8, .fnil⟩
theorem ti55_ok : TyOk Try.prog 55 ti55 := ⟨Try.underlying55, ⟨Try.t55, _, info_of Try.type55, rfl, rfl, rfl, fun _ => rfl, rfl⟩⟩
def ti56 : TI := ⟨Go.TypeDesc.struct #[{ name := "Bought", type := 28, offset := 0, embedded := false, tag := "", pkgPath := "", byteOffset := 0 }, { name := "Hut", type := 3, offset := 2, embedded := false, tag := "", pkgPath := "", byteOffset := 16 }, { name := "Door", type := 28, offset := 3, embedded := false, tag := "", pkgPath := "", byteOffset := 24 }], 5, 40, .agg [.int .i64 0, .int .i64 0, .int .i64 0, .int .i64 0, .int .i64 0]⟩
theorem ti56_ok : TyOk Try.prog 56 ti56 := ⟨Try.underlying56, ⟨Try.t56, _, info_of Try.type56, rfl, rfl, rfl, fun _ => rfl, rfl⟩⟩
def ti57 : TI := ⟨Go.TypeDesc.struct #[{ name := "Bought", type := 28, offset := 0, embedded := false, tag := "", pkgPath := "", byteOffset := 0 }, { name := "Hut", type := 3, offset := 2, embedded := false, tag := "", pkgPath := "", byteOffset := 16 }, { name := "Door", type := 28, offset := 3, embedded := false, tag := "", pkgPath := "", byteOffset := 24 }], 5, 40, .agg [.int .i64 0, .int .i64 0, .int .i64 0, .int .i64 0, .int .i64 0]⟩
theorem ti57_ok : TyOk Try.prog 57 ti57 := ⟨Try.underlying57, ⟨Try.t57, _, info_of Try.type57, rfl, rfl, rfl, fun _ => rfl, rfl⟩⟩
def ti58 : TI := ⟨Go.TypeDesc.func #[48] #[4] false, 1, 8, .fnil⟩
theorem ti58_ok : TyOk Try.prog 58 ti58 := ⟨Try.underlying58, ⟨Try.t58, _, info_of Try.type58, rfl, rfl, rfl, fun _ => rfl, rfl⟩⟩
def ti59 : TI := ⟨Go.TypeDesc.array 4 4, 4, 4, .agg [.bool false, .bool false, .bool false, .bool false]⟩
theorem ti59_ok : TyOk Try.prog 59 ti59 := ⟨Try.underlying59, ⟨Try.t59, _, info_of Try.type59, rfl, rfl, rfl, fun _ => rfl, rfl⟩⟩
def ti60 : TI := ⟨Go.TypeDesc.func #[24, 3, 3, 3] #[24] false, 1, 8, .fnil⟩
theorem ti60_ok : TyOk Try.prog 60 ti60 := ⟨Try.underlying60, ⟨Try.t60, _, info_of Try.type60, rfl, rfl, rfl, fun _ => rfl, rfl⟩⟩
def ti61 : TI := ⟨Go.TypeDesc.slice 4, 1, 24, .snil⟩
theorem ti61_ok : TyOk Try.prog 61 ti61 := ⟨Try.underlying61, ⟨Try.t61, _, info_of Try.type61, rfl, rfl, rfl, fun _ => rfl, rfl⟩⟩
def ti62 : TI := ⟨Go.TypeDesc.func #[24, 5] #[4] false, 1, 8, .fnil⟩
theorem ti62_ok : TyOk Try.prog 62 ti62 := ⟨Try.underlying62, ⟨Try.t62, _, info_of Try.type62, rfl, rfl, rfl, fun _ => rfl, rfl⟩⟩
def ti63 : TI := ⟨Go.TypeDesc.func #[3, 3, 3, 3, 3] #[57] false, 1, 8, .fnil⟩
theorem ti63_ok : TyOk Try.prog 63 ti63 := ⟨Try.underlying63, ⟨Try.t63, _, info_of Try.type63, rfl, rfl, rfl, fun _ => rfl, rfl⟩⟩
def ti64 : TI := ⟨Go.TypeDesc.func #[24, 5, 5] #[4] false, 1, 8, .fnil⟩
theorem ti64_ok : TyOk Try.prog 64 ti64 := ⟨Try.underlying64, ⟨Try.t64, _, info_of Try.type64, rfl, rfl, rfl, fun _ => rfl, rfl⟩⟩
def ti65 : TI := ⟨Go.TypeDesc.func #[24, 3] #[24] false, 1, 8, .fnil⟩
theorem ti65_ok : TyOk Try.prog 65 ti65 := ⟨Try.underlying65, ⟨Try.t65, _, info_of Try.type65, rfl, rfl, rfl, fun _ => rfl, rfl⟩⟩
def ti66 : TI := ⟨Go.TypeDesc.func #[3] #[4] false, 1, 8, .fnil⟩
theorem ti66_ok : TyOk Try.prog 66 ti66 := ⟨Try.underlying66, ⟨Try.t66, _, info_of Try.type66, rfl, rfl, rfl, fun _ => rfl, rfl⟩⟩
def ti67 : TI := ⟨Go.TypeDesc.pointer 28, 1, 8, .pnil⟩
theorem ti67_ok : TyOk Try.prog 67 ti67 := ⟨Try.underlying67, ⟨Try.t67, _, info_of Try.type67, rfl, rfl, rfl, fun _ => rfl, rfl⟩⟩
def ti68 : TI := ⟨Go.TypeDesc.func #[28, 28] #[4] false, 1, 8, .fnil⟩
theorem ti68_ok : TyOk Try.prog 68 ti68 := ⟨Try.underlying68, ⟨Try.t68, _, info_of Try.type68, rfl, rfl, rfl, fun _ => rfl, rfl⟩⟩
def ti69 : TI := ⟨Go.TypeDesc.slice 24, 1, 24, .snil⟩
theorem ti69_ok : TyOk Try.prog 69 ti69 := ⟨Try.underlying69, ⟨Try.t69, _, info_of Try.type69, rfl, rfl, rfl, fun _ => rfl, rfl⟩⟩
def ti70 : TI := ⟨Go.TypeDesc.func #[24, 5, 5, 5] #[4] false, 1, 8, .fnil⟩
theorem ti70_ok : TyOk Try.prog 70 ti70 := ⟨Try.underlying70, ⟨Try.t70, _, info_of Try.type70, rfl, rfl, rfl, fun _ => rfl, rfl⟩⟩
def ti71 : TI := ⟨Go.TypeDesc.func #[20, 72] #[] false, 1, 8, .fnil⟩
theorem ti71_ok : TyOk Try.prog 71 ti71 := ⟨Try.underlying71, ⟨Try.t71, _, info_of Try.type71, rfl, rfl, rfl, fun _ => rfl, rfl⟩⟩
def ti72 : TI := ⟨Go.TypeDesc.pointer 29, 1, 8, .pnil⟩
theorem ti72_ok : TyOk Try.prog 72 ti72 := ⟨Try.underlying72, ⟨Try.t72, _, info_of Try.type72, rfl, rfl, rfl, fun _ => rfl, rfl⟩⟩
def ti73 : TI := ⟨Go.TypeDesc.slice 28, 1, 24, .snil⟩
theorem ti73_ok : TyOk Try.prog 73 ti73 := ⟨Try.underlying73, ⟨Try.t73, _, info_of Try.type73, rfl, rfl, rfl, fun _ => rfl, rfl⟩⟩
def ti74 : TI := ⟨Go.TypeDesc.pointer 129, 1, 8, .pnil⟩
theorem ti74_ok : TyOk Try.prog 74 ti74 := ⟨Try.underlying74, ⟨Try.t74, _, info_of Try.type74, rfl, rfl, rfl, fun _ => rfl, rfl⟩⟩
def ti75 : TI := ⟨Go.TypeDesc.func #[24, 4] #[74] false, 1, 8, .fnil⟩
theorem ti75_ok : TyOk Try.prog 75 ti75 := ⟨Try.underlying75, ⟨Try.t75, _, info_of Try.type75, rfl, rfl, rfl, fun _ => rfl, rfl⟩⟩
def ti76 : TI := ⟨Go.TypeDesc.func #[131] #[73] true, 1, 8, .fnil⟩
theorem ti76_ok : TyOk Try.prog 76 ti76 := ⟨Try.underlying76, ⟨Try.t76, _, info_of Try.type76, rfl, rfl, rfl, fun _ => rfl, rfl⟩⟩
def ti77 : TI := ⟨Go.TypeDesc.struct #[{ name := "bought", type := 3, offset := 0, embedded := false, tag := "", pkgPath := "dipworks/ticket", byteOffset := 0 }, { name := "door", type := 3, offset := 1, embedded := false, tag := "", pkgPath := "dipworks/ticket", byteOffset := 8 }], 2, 16, .agg [.int .i64 0, .int .i64 0]⟩
theorem ti77_ok : TyOk Try.prog 77 ti77 := ⟨Try.underlying77, ⟨Try.t77, _, info_of Try.type77, rfl, rfl, rfl, fun _ => rfl, rfl⟩⟩
def ti78 : TI := ⟨Go.TypeDesc.struct #[{ name := "bought", type := 3, offset := 0, embedded := false, tag := "", pkgPath := "dipworks/ticket", byteOffset := 0 }, { name := "door", type := 3, offset := 1, embedded := false, tag := "", pkgPath := "dipworks/ticket", byteOffset := 8 }], 2, 16, .agg [.int .i64 0, .int .i64 0]⟩
theorem ti78_ok : TyOk Try.prog 78 ti78 := ⟨Try.underlying78, ⟨Try.t78, _, info_of Try.type78, rfl, rfl, rfl, fun _ => rfl, rfl⟩⟩
def ti79 : TI := ⟨Go.TypeDesc.array 5 78, 10, 80, .agg [.int .i64 0, .int .i64 0, .int .i64 0, .int .i64 0, .int .i64 0, .int .i64 0, .int .i64 0, .int .i64 0, .int .i64 0, .int .i64 0]⟩
theorem ti79_ok : TyOk Try.prog 79 ti79 := ⟨Try.underlying79, ⟨Try.t79, _, info_of Try.type79, rfl, rfl, rfl, fun _ => rfl, rfl⟩⟩
def ti80 : TI := ⟨Go.TypeDesc.array 5 78, 10, 80, .agg [.int .i64 0, .int .i64 0, .int .i64 0, .int .i64 0, .int .i64 0, .int .i64 0, .int .i64 0, .int .i64 0, .int .i64 0, .int .i64 0]⟩
theorem ti80_ok : TyOk Try.prog 80 ti80 := ⟨Try.underlying80, ⟨Try.t80, _, info_of Try.type80, rfl, rfl, rfl, fun _ => rfl, rfl⟩⟩
def ti81 : TI := ⟨Go.TypeDesc.func #[80] #[3] false, 1, 8, .fnil⟩
theorem ti81_ok : TyOk Try.prog 81 ti81 := ⟨Try.underlying81, ⟨Try.t81, _, info_of Try.type81, rfl, rfl, rfl, fun _ => rfl, rfl⟩⟩
def ti82 : TI := ⟨Go.TypeDesc.slice 86, 1, 24, .snil⟩
theorem ti82_ok : TyOk Try.prog 82 ti82 := ⟨Try.underlying82, ⟨Try.t82, _, info_of Try.type82, rfl, rfl, rfl, fun _ => rfl, rfl⟩⟩
def ti84 : TI := ⟨Go.TypeDesc.func #[24, 4] #[82, 29] false, 1, 8, .fnil⟩
theorem ti84_ok : TyOk Try.prog 84 ti84 := ⟨Try.underlying84, ⟨Try.t84, _, info_of Try.type84, rfl, rfl, rfl, fun _ => rfl, rfl⟩⟩
def ti85 : TI := ⟨Go.TypeDesc.struct #[{ name := "Bought", type := 51, offset := 0, embedded := false, tag := "", pkgPath := "", byteOffset := 0 }, { name := "Door", type := 51, offset := 1, embedded := false, tag := "", pkgPath := "", byteOffset := 24 }], 2, 48, .agg [.snil, .snil]⟩
theorem ti85_ok : TyOk Try.prog 85 ti85 := ⟨Try.underlying85, ⟨Try.t85, _, info_of Try.type85, rfl, rfl, rfl, fun _ => rfl, rfl⟩⟩
def ti86 : TI := ⟨Go.TypeDesc.struct #[{ name := "Bought", type := 51, offset := 0, embedded := false, tag := "", pkgPath := "", byteOffset := 0 }, { name := "Door", type := 51, offset := 1, embedded := false, tag := "", pkgPath := "", byteOffset := 24 }], 2, 48, .agg [.snil, .snil]⟩
theorem ti86_ok : TyOk Try.prog 86 ti86 := ⟨Try.underlying86, ⟨Try.t86, _, info_of Try.type86, rfl, rfl, rfl, fun _ => rfl, rfl⟩⟩
def ti87 : TI := ⟨Go.TypeDesc.func #[51] #[28] false, 1, 8, .fnil⟩
theorem ti87_ok : TyOk Try.prog 87 ti87 := ⟨Try.underlying87, ⟨Try.t87, _, info_of Try.type87, rfl, rfl, rfl, fun _ => rfl, rfl⟩⟩
def ti88 : TI := ⟨Go.TypeDesc.struct #[{ name := "is", type := 4, offset := 0, embedded := false, tag := "", pkgPath := "dipworks/ticket", byteOffset := 0 }, { name := "not", type := 4, offset := 1, embedded := false, tag := "", pkgPath := "dipworks/ticket", byteOffset := 1 }], 2, 2, .agg [.bool false, .bool false]⟩
theorem ti88_ok : TyOk Try.prog 88 ti88 := ⟨Try.underlying88, ⟨Try.t88, _, info_of Try.type88, rfl, rfl, rfl, fun _ => rfl, rfl⟩⟩
def ti89 : TI := ⟨Go.TypeDesc.struct #[{ name := "is", type := 4, offset := 0, embedded := false, tag := "", pkgPath := "dipworks/ticket", byteOffset := 0 }, { name := "not", type := 4, offset := 1, embedded := false, tag := "", pkgPath := "dipworks/ticket", byteOffset := 1 }], 2, 2, .agg [.bool false, .bool false]⟩
theorem ti89_ok : TyOk Try.prog 89 ti89 := ⟨Try.underlying89, ⟨Try.t89, _, info_of Try.type89, rfl, rfl, rfl, fun _ => rfl, rfl⟩⟩
def ti90 : TI := ⟨Go.TypeDesc.func #[116] #[89] false, 1, 8, .fnil⟩
theorem ti90_ok : TyOk Try.prog 90 ti90 := ⟨Try.underlying90, ⟨Try.t90, _, info_of Try.type90, rfl, rfl, rfl, fun _ => rfl, rfl⟩⟩
def ti91 : TI := ⟨Go.TypeDesc.struct #[{ name := "ticket", type := 3, offset := 0, embedded := false, tag := "", pkgPath := "dipworks/ticket", byteOffset := 0 }, { name := "other", type := 3, offset := 1, embedded := false, tag := "", pkgPath := "dipworks/ticket", byteOffset := 8 }], 2, 16, .agg [.int .i64 0, .int .i64 0]⟩
theorem ti91_ok : TyOk Try.prog 91 ti91 := ⟨Try.underlying91, ⟨Try.t91, _, info_of Try.type91, rfl, rfl, rfl, fun _ => rfl, rfl⟩⟩
def ti92 : TI := ⟨Go.TypeDesc.struct #[{ name := "ticket", type := 3, offset := 0, embedded := false, tag := "", pkgPath := "dipworks/ticket", byteOffset := 0 }, { name := "other", type := 3, offset := 1, embedded := false, tag := "", pkgPath := "dipworks/ticket", byteOffset := 8 }], 2, 16, .agg [.int .i64 0, .int .i64 0]⟩
theorem ti92_ok : TyOk Try.prog 92 ti92 := ⟨Try.underlying92, ⟨Try.t92, _, info_of Try.type92, rfl, rfl, rfl, fun _ => rfl, rfl⟩⟩
def ti93 : TI := ⟨Go.TypeDesc.struct #[{ name := "over", type := 92, offset := 0, embedded := true, tag := "", pkgPath := "dipworks/ticket", byteOffset := 0 }], 2, 16, .agg [.int .i64 0, .int .i64 0]⟩
theorem ti93_ok : TyOk Try.prog 93 ti93 := ⟨Try.underlying93, ⟨Try.t93, _, info_of Try.type93, rfl, rfl, rfl, fun _ => rfl, rfl⟩⟩
def ti94 : TI := ⟨Go.TypeDesc.struct #[{ name := "over", type := 92, offset := 0, embedded := true, tag := "", pkgPath := "dipworks/ticket", byteOffset := 0 }], 2, 16, .agg [.int .i64 0, .int .i64 0]⟩
theorem ti94_ok : TyOk Try.prog 94 ti94 := ⟨Try.underlying94, ⟨Try.t94, _, info_of Try.type94, rfl, rfl, rfl, fun _ => rfl, rfl⟩⟩
def ti95 : TI := ⟨Go.TypeDesc.func #[] #[3] false, 1, 8, .fnil⟩
theorem ti95_ok : TyOk Try.prog 95 ti95 := ⟨Try.underlying95, ⟨Try.t95, _, info_of Try.type95, rfl, rfl, rfl, fun _ => rfl, rfl⟩⟩
def ti96 : TI := ⟨Go.TypeDesc.func #[86, 3] #[4] false, 1, 8, .fnil⟩
theorem ti96_ok : TyOk Try.prog 96 ti96 := ⟨Try.underlying96, ⟨Try.t96, _, info_of Try.type96, rfl, rfl, rfl, fun _ => rfl, rfl⟩⟩
def ti97 : TI := ⟨Go.TypeDesc.func #[3, 3] #[3] false, 1, 8, .fnil⟩
theorem ti97_ok : TyOk Try.prog 97 ti97 := ⟨Try.underlying97, ⟨Try.t97, _, info_of Try.type97, rfl, rfl, rfl, fun _ => rfl, rfl⟩⟩
def ti98 : TI := ⟨Go.TypeDesc.func #[51] #[3] true, 1, 8, .fnil⟩
theorem ti98_ok : TyOk Try.prog 98 ti98 := ⟨Try.underlying98, ⟨Try.t98, _, info_of Try.type98, rfl, rfl, rfl, fun _ => rfl, rfl⟩⟩
def ti99 : TI := ⟨Go.TypeDesc.func #[86, 3, 3] #[4] false, 1, 8, .fnil⟩
theorem ti99_ok : TyOk Try.prog 99 ti99 := ⟨Try.underlying99, ⟨Try.t99, _, info_of Try.type99, rfl, rfl, rfl, fun _ => rfl, rfl⟩⟩
def ti100 : TI := ⟨Go.TypeDesc.map 80 4, 1, 8, .mnil⟩
theorem ti100_ok : TyOk Try.prog 100 ti100 := ⟨Try.underlying100, ⟨Try.t100, _, info_of Try.type100, rfl, rfl, rfl, fun _ => rfl, rfl⟩⟩
def ti101 : TI := ⟨Go.TypeDesc.func #[136] #[] false, 1, 8, .fnil⟩
theorem ti101_ok : TyOk Try.prog 101 ti101 := ⟨Try.underlying101, ⟨Try.t101, _, info_of Try.type101, rfl, rfl, rfl, fun _ => rfl, rfl⟩⟩
def ti102 : TI := ⟨Go.TypeDesc.func #[136] #[] false, 1, 8, .fnil⟩
theorem ti102_ok : TyOk Try.prog 102 ti102 := ⟨Try.underlying102, ⟨Try.t102, _, info_of Try.type102, rfl, rfl, rfl, fun _ => rfl, rfl⟩⟩
def ti103 : TI := ⟨Go.TypeDesc.func #[] #[102] false, 1, 8, .fnil⟩
theorem ti103_ok : TyOk Try.prog 103 ti103 := ⟨Try.underlying103, ⟨Try.t103, _, info_of Try.type103, rfl, rfl, rfl, fun _ => rfl, rfl⟩⟩
def ti104 : TI := ⟨Go.TypeDesc.func #[3, 3] #[4] false, 1, 8, .fnil⟩
theorem ti104_ok : TyOk Try.prog 104 ti104 := ⟨Try.underlying104, ⟨Try.t104, _, info_of Try.type104, rfl, rfl, rfl, fun _ => rfl, rfl⟩⟩
def ti105 : TI := ⟨Go.TypeDesc.func #[4, 29] #[] false, 1, 8, .fnil⟩
theorem ti105_ok : TyOk Try.prog 105 ti105 := ⟨Try.underlying105, ⟨Try.t105, _, info_of Try.type105, rfl, rfl, rfl, fun _ => rfl, rfl⟩⟩
def ti106 : TI := ⟨Go.TypeDesc.func #[86, 3] #[3] false, 1, 8, .fnil⟩
theorem ti106_ok : TyOk Try.prog 106 ti106 := ⟨Try.underlying106, ⟨Try.t106, _, info_of Try.type106, rfl, rfl, rfl, fun _ => rfl, rfl⟩⟩
def ti107 : TI := ⟨Go.TypeDesc.struct #[{ name := "hut", type := 3, offset := 0, embedded := false, tag := "", pkgPath := "dipworks/ticket", byteOffset := 0 }, { name := "minute", type := 3, offset := 1, embedded := false, tag := "", pkgPath := "dipworks/ticket", byteOffset := 8 }], 2, 16, .agg [.int .i64 0, .int .i64 0]⟩
theorem ti107_ok : TyOk Try.prog 107 ti107 := ⟨Try.underlying107, ⟨Try.t107, _, info_of Try.type107, rfl, rfl, rfl, fun _ => rfl, rfl⟩⟩
def ti108 : TI := ⟨Go.TypeDesc.struct #[{ name := "hut", type := 3, offset := 0, embedded := false, tag := "", pkgPath := "dipworks/ticket", byteOffset := 0 }, { name := "minute", type := 3, offset := 1, embedded := false, tag := "", pkgPath := "dipworks/ticket", byteOffset := 8 }], 2, 16, .agg [.int .i64 0, .int .i64 0]⟩
theorem ti108_ok : TyOk Try.prog 108 ti108 := ⟨Try.underlying108, ⟨Try.t108, _, info_of Try.type108, rfl, rfl, rfl, fun _ => rfl, rfl⟩⟩
def ti109 : TI := ⟨Go.TypeDesc.func #[24, 86, 3, 3] #[4] false, 1, 8, .fnil⟩
theorem ti109_ok : TyOk Try.prog 109 ti109 := ⟨Try.underlying109, ⟨Try.t109, _, info_of Try.type109, rfl, rfl, rfl, fun _ => rfl, rfl⟩⟩
def ti110 : TI := ⟨Go.TypeDesc.slice 78, 1, 24, .snil⟩
theorem ti110_ok : TyOk Try.prog 110 ti110 := ⟨Try.underlying110, ⟨Try.t110, _, info_of Try.type110, rfl, rfl, rfl, fun _ => rfl, rfl⟩⟩
def ti111 : TI := ⟨Go.TypeDesc.func #[86] #[3] false, 1, 8, .fnil⟩
theorem ti111_ok : TyOk Try.prog 111 ti111 := ⟨Try.underlying111, ⟨Try.t111, _, info_of Try.type111, rfl, rfl, rfl, fun _ => rfl, rfl⟩⟩
def ti112 : TI := ⟨Go.TypeDesc.func #[113] #[3] false, 1, 8, .fnil⟩
theorem ti112_ok : TyOk Try.prog 112 ti112 := ⟨Try.underlying112, ⟨Try.t112, _, info_of Try.type112, rfl, rfl, rfl, fun _ => rfl, rfl⟩⟩
def ti113 : TI := ⟨Go.TypeDesc.int Go.IntKind.u64, 1, 8, .int .u64 0⟩
theorem ti113_ok : TyOk Try.prog 113 ti113 := ⟨Try.underlying113, ⟨Try.t113, _, info_of Try.type113, rfl, rfl, rfl, fun _ => rfl, rfl⟩⟩
def ti114 : TI := ⟨Go.TypeDesc.func #[24, 86] #[3] false, 1, 8, .fnil⟩
theorem ti114_ok : TyOk Try.prog 114 ti114 := ⟨Try.underlying114, ⟨Try.t114, _, info_of Try.type114, rfl, rfl, rfl, fun _ => rfl, rfl⟩⟩
def ti115 : TI := ⟨Go.TypeDesc.interface #[("dipworks/ticket.is", 117)], 1, 16, .inil⟩
theorem ti115_ok : TyOk Try.prog 115 ti115 := ⟨Try.underlying115, ⟨Try.t115, _, info_of Try.type115, rfl, rfl, rfl, fun _ => rfl, rfl⟩⟩
def ti116 : TI := ⟨Go.TypeDesc.interface #[("dipworks/ticket.is", 117)], 1, 16, .inil⟩
theorem ti116_ok : TyOk Try.prog 116 ti116 := ⟨Try.underlying116, ⟨Try.t116, _, info_of Try.type116, rfl, rfl, rfl, fun _ => rfl, rfl⟩⟩
def ti117 : TI := ⟨Go.TypeDesc.func #[74, 80] #[4] false, 1, 8, .fnil⟩
theorem ti117_ok : TyOk Try.prog 117 ti117 := ⟨Try.underlying117, ⟨Try.t117, _, info_of Try.type117, rfl, rfl, rfl, fun _ => rfl, rfl⟩⟩
def ti118 : TI := ⟨Go.TypeDesc.func #[24, 113] #[24] false, 1, 8, .fnil⟩
theorem ti118_ok : TyOk Try.prog 118 ti118 := ⟨Try.underlying118, ⟨Try.t118, _, info_of Try.type118, rfl, rfl, rfl, fun _ => rfl, rfl⟩⟩
def ti119 : TI := ⟨Go.TypeDesc.func #[113] #[4] false, 1, 8, .fnil⟩
theorem ti119_ok : TyOk Try.prog 119 ti119 := ⟨Try.underlying119, ⟨Try.t119, _, info_of Try.type119, rfl, rfl, rfl, fun _ => rfl, rfl⟩⟩
def ti120 : TI := ⟨Go.TypeDesc.func #[24] #[82] false, 1, 8, .fnil⟩
theorem ti120_ok : TyOk Try.prog 120 ti120 := ⟨Try.underlying120, ⟨Try.t120, _, info_of Try.type120, rfl, rfl, rfl, fun _ => rfl, rfl⟩⟩
def ti121 : TI := ⟨Go.TypeDesc.int Go.IntKind.u16, 1, 2, .int .u16 0⟩
theorem ti121_ok : TyOk Try.prog 121 ti121 := ⟨Try.underlying121, ⟨Try.t121, _, info_of Try.type121, rfl, rfl, rfl, fun _ => rfl, rfl⟩⟩
def ti122 : TI := ⟨Go.TypeDesc.func #[3] #[28] false, 1, 8, .fnil⟩
theorem ti122_ok : TyOk Try.prog 122 ti122 := ⟨Try.underlying122, ⟨Try.t122, _, info_of Try.type122, rfl, rfl, rfl, fun _ => rfl, rfl⟩⟩
def ti123 : TI := ⟨Go.TypeDesc.func #[3, 3, 3] #[4] false, 1, 8, .fnil⟩
theorem ti123_ok : TyOk Try.prog 123 ti123 := ⟨Try.underlying123, ⟨Try.t123, _, info_of Try.type123, rfl, rfl, rfl, fun _ => rfl, rfl⟩⟩
def ti124 : TI := ⟨Go.TypeDesc.func #[28] #[4] false, 1, 8, .fnil⟩
theorem ti124_ok : TyOk Try.prog 124 ti124 := ⟨Try.underlying124, ⟨Try.t124, _, info_of Try.type124, rfl, rfl, rfl, fun _ => rfl, rfl⟩⟩
def ti125 : TI := ⟨Go.TypeDesc.struct #[{ name := "e", type := 29, offset := 0, embedded := false, tag := "", pkgPath := "dipworks/ticket", byteOffset := 0 }], 1, 8, .agg [.int .i64 0]⟩
theorem ti125_ok : TyOk Try.prog 125 ti125 := ⟨Try.underlying125, ⟨Try.t125, _, info_of Try.type125, rfl, rfl, rfl, fun _ => rfl, rfl⟩⟩
def ti126 : TI := ⟨Go.TypeDesc.struct #[{ name := "e", type := 29, offset := 0, embedded := false, tag := "", pkgPath := "dipworks/ticket", byteOffset := 0 }], 1, 8, .agg [.int .i64 0]⟩
theorem ti126_ok : TyOk Try.prog 126 ti126 := ⟨Try.underlying126, ⟨Try.t126, _, info_of Try.type126, rfl, rfl, rfl, fun _ => rfl, rfl⟩⟩
def ti128 : TI := ⟨Go.TypeDesc.struct #[{ name := "Tickets", type := 24, offset := 0, embedded := true, tag := "", pkgPath := "", byteOffset := 0 }, { name := "order", type := 51, offset := 2, embedded := false, tag := "", pkgPath := "dipworks/ticket", byteOffset := 32 }], 3, 56, .agg [.int .i64 0, .snil, .snil]⟩
theorem ti128_ok : TyOk Try.prog 128 ti128 := ⟨Try.underlying128, ⟨Try.t128, _, info_of Try.type128, rfl, rfl, rfl, fun _ => rfl, rfl⟩⟩
def ti129 : TI := ⟨Go.TypeDesc.struct #[{ name := "Tickets", type := 24, offset := 0, embedded := true, tag := "", pkgPath := "", byteOffset := 0 }, { name := "order", type := 51, offset := 2, embedded := false, tag := "", pkgPath := "dipworks/ticket", byteOffset := 32 }], 3, 56, .agg [.int .i64 0, .snil, .snil]⟩
theorem ti129_ok : TyOk Try.prog 129 ti129 := ⟨Try.underlying129, ⟨Try.t129, _, info_of Try.type129, rfl, rfl, rfl, fun _ => rfl, rfl⟩⟩
def ti130 : TI := ⟨Go.TypeDesc.func #[51, 97] #[] false, 1, 8, .fnil⟩
theorem ti130_ok : TyOk Try.prog 130 ti130 := ⟨Try.underlying130, ⟨Try.t130, _, info_of Try.type130, rfl, rfl, rfl, fun _ => rfl, rfl⟩⟩
def ti131 : TI := ⟨Go.TypeDesc.slice 81, 1, 24, .snil⟩
theorem ti131_ok : TyOk Try.prog 131 ti131 := ⟨Try.underlying131, ⟨Try.t131, _, info_of Try.type131, rfl, rfl, rfl, fun _ => rfl, rfl⟩⟩
def ti132 : TI := ⟨Go.TypeDesc.slice 134, 1, 24, .snil⟩
theorem ti132_ok : TyOk Try.prog 132 ti132 := ⟨Try.underlying132, ⟨Try.t132, _, info_of Try.type132, rfl, rfl, rfl, fun _ => rfl, rfl⟩⟩
def ti133 : TI := ⟨Go.TypeDesc.struct #[{ name := "of", type := 81, offset := 0, embedded := false, tag := "", pkgPath := "dipworks/ticket", byteOffset := 0 }, { name := "some", type := 4, offset := 1, embedded := false, tag := "", pkgPath := "dipworks/ticket", byteOffset := 8 }, { name := "span", type := 28, offset := 2, embedded := false, tag := "", pkgPath := "dipworks/ticket", byteOffset := 16 }], 4, 32, .agg [.fnil, .bool false, .int .i64 0, .int .i64 0]⟩
theorem ti133_ok : TyOk Try.prog 133 ti133 := ⟨Try.underlying133, ⟨Try.t133, _, info_of Try.type133, rfl, rfl, rfl, fun _ => rfl, rfl⟩⟩
def ti134 : TI := ⟨Go.TypeDesc.struct #[{ name := "of", type := 81, offset := 0, embedded := false, tag := "", pkgPath := "dipworks/ticket", byteOffset := 0 }, { name := "some", type := 4, offset := 1, embedded := false, tag := "", pkgPath := "dipworks/ticket", byteOffset := 8 }, { name := "span", type := 28, offset := 2, embedded := false, tag := "", pkgPath := "dipworks/ticket", byteOffset := 16 }], 4, 32, .agg [.fnil, .bool false, .int .i64 0, .int .i64 0]⟩
theorem ti134_ok : TyOk Try.prog 134 ti134 := ⟨Try.underlying134, ⟨Try.t134, _, info_of Try.type134, rfl, rfl, rfl, fun _ => rfl, rfl⟩⟩
def ti135 : TI := ⟨Go.TypeDesc.func #[80] #[] false, 1, 8, .fnil⟩
theorem ti135_ok : TyOk Try.prog 135 ti135 := ⟨Try.underlying135, ⟨Try.t135, _, info_of Try.type135, rfl, rfl, rfl, fun _ => rfl, rfl⟩⟩
def ti136 : TI := ⟨Go.TypeDesc.func #[80] #[4] false, 1, 8, .fnil⟩
theorem ti136_ok : TyOk Try.prog 136 ti136 := ⟨Try.underlying136, ⟨Try.t136, _, info_of Try.type136, rfl, rfl, rfl, fun _ => rfl, rfl⟩⟩
def ti137 : TI := ⟨Go.TypeDesc.func #[80, 3] #[4] false, 1, 8, .fnil⟩
theorem ti137_ok : TyOk Try.prog 137 ti137 := ⟨Try.underlying137, ⟨Try.t137, _, info_of Try.type137, rfl, rfl, rfl, fun _ => rfl, rfl⟩⟩
def ti138 : TI := ⟨Go.TypeDesc.func #[3, 78] #[80] false, 1, 8, .fnil⟩
theorem ti138_ok : TyOk Try.prog 138 ti138 := ⟨Try.underlying138, ⟨Try.t138, _, info_of Try.type138, rfl, rfl, rfl, fun _ => rfl, rfl⟩⟩
def ti139 : TI := ⟨Go.TypeDesc.func #[151] #[] false, 1, 8, .fnil⟩
theorem ti139_ok : TyOk Try.prog 139 ti139 := ⟨Try.underlying139, ⟨Try.t139, _, info_of Try.type139, rfl, rfl, rfl, fun _ => rfl, rfl⟩⟩
def ti140 : TI := ⟨Go.TypeDesc.func #[151] #[] false, 1, 8, .fnil⟩
theorem ti140_ok : TyOk Try.prog 140 ti140 := ⟨Try.underlying140, ⟨Try.t140, _, info_of Try.type140, rfl, rfl, rfl, fun _ => rfl, rfl⟩⟩
def ti141 : TI := ⟨Go.TypeDesc.func #[3] #[140] false, 1, 8, .fnil⟩
theorem ti141_ok : TyOk Try.prog 141 ti141 := ⟨Try.underlying141, ⟨Try.t141, _, info_of Try.type141, rfl, rfl, rfl, fun _ => rfl, rfl⟩⟩
def ti142 : TI := ⟨Go.TypeDesc.func #[143] #[3] false, 1, 8, .fnil⟩
theorem ti142_ok : TyOk Try.prog 142 ti142 := ⟨Try.underlying142, ⟨Try.t142, _, info_of Try.type142, rfl, rfl, rfl, fun _ => rfl, rfl⟩⟩
def ti143 : TI := ⟨Go.TypeDesc.int Go.IntKind.u32, 1, 4, .int .u32 0⟩
theorem ti143_ok : TyOk Try.prog 143 ti143 := ⟨Try.underlying143, ⟨Try.t143, _, info_of Try.type143, rfl, rfl, rfl, fun _ => rfl, rfl⟩⟩
def ti144 : TI := ⟨Go.TypeDesc.func #[145] #[3] false, 1, 8, .fnil⟩
theorem ti144_ok : TyOk Try.prog 144 ti144 := ⟨Try.underlying144, ⟨Try.t144, _, info_of Try.type144, rfl, rfl, rfl, fun _ => rfl, rfl⟩⟩
def ti145 : TI := ⟨Go.TypeDesc.int Go.IntKind.u64, 1, 8, .int .u64 0⟩
theorem ti145_ok : TyOk Try.prog 145 ti145 := ⟨Try.underlying145, ⟨Try.t145, _, info_of Try.type145, rfl, rfl, rfl, fun _ => rfl, rfl⟩⟩
def ti146 : TI := ⟨Go.TypeDesc.func #[22, 147] #[22] false, 1, 8, .fnil⟩
theorem ti146_ok : TyOk Try.prog 146 ti146 := ⟨Try.underlying146, ⟨Try.t146, _, info_of Try.type146, rfl, rfl, rfl, fun _ => rfl, rfl⟩⟩
def ti147 : TI := ⟨Go.TypeDesc.func #[57] #[4] false, 1, 8, .fnil⟩
theorem ti147_ok : TyOk Try.prog 147 ti147 := ⟨Try.underlying147, ⟨Try.t147, _, info_of Try.type147, rfl, rfl, rfl, fun _ => rfl, rfl⟩⟩
def ti148 : TI := ⟨Go.TypeDesc.func #[24, 86, 82] #[82] false, 1, 8, .fnil⟩
theorem ti148_ok : TyOk Try.prog 148 ti148 := ⟨Try.underlying148, ⟨Try.t148, _, info_of Try.type148, rfl, rfl, rfl, fun _ => rfl, rfl⟩⟩
def ti149 : TI := ⟨Go.TypeDesc.func #[51, 3, 97] #[] false, 1, 8, .fnil⟩
theorem ti149_ok : TyOk Try.prog 149 ti149 := ⟨Try.underlying149, ⟨Try.t149, _, info_of Try.type149, rfl, rfl, rfl, fun _ => rfl, rfl⟩⟩
def ti150 : TI := ⟨Go.TypeDesc.pointer 134, 1, 8, .pnil⟩
theorem ti150_ok : TyOk Try.prog 150 ti150 := ⟨Try.underlying150, ⟨Try.t150, _, info_of Try.type150, rfl, rfl, rfl, fun _ => rfl, rfl⟩⟩
def ti151 : TI := ⟨Go.TypeDesc.func #[78] #[4] false, 1, 8, .fnil⟩
theorem ti151_ok : TyOk Try.prog 151 ti151 := ⟨Try.underlying151, ⟨Try.t151, _, info_of Try.type151, rfl, rfl, rfl, fun _ => rfl, rfl⟩⟩
def ti152 : TI := ⟨Go.TypeDesc.func #[22, 147] #[3] false, 1, 8, .fnil⟩
theorem ti152_ok : TyOk Try.prog 152 ti152 := ⟨Try.underlying152, ⟨Try.t152, _, info_of Try.type152, rfl, rfl, rfl, fun _ => rfl, rfl⟩⟩
def ti153 : TI := ⟨Go.TypeDesc.func #[24, 86] #[4] false, 1, 8, .fnil⟩
theorem ti153_ok : TyOk Try.prog 153 ti153 := ⟨Try.underlying153, ⟨Try.t153, _, info_of Try.type153, rfl, rfl, rfl, fun _ => rfl, rfl⟩⟩
def ti154 : TI := ⟨Go.TypeDesc.func #[51, 3, 3, 97] #[] false, 1, 8, .fnil⟩
theorem ti154_ok : TyOk Try.prog 154 ti154 := ⟨Try.underlying154, ⟨Try.t154, _, info_of Try.type154, rfl, rfl, rfl, fun _ => rfl, rfl⟩⟩
def ti155 : TI := ⟨Go.TypeDesc.func #[51, 3, 3, 3, 97] #[] false, 1, 8, .fnil⟩
theorem ti155_ok : TyOk Try.prog 155 ti155 := ⟨Try.underlying155, ⟨Try.t155, _, info_of Try.type155, rfl, rfl, rfl, fun _ => rfl, rfl⟩⟩
def ti156 : TI := ⟨Go.TypeDesc.func #[] #[9] false, 1, 8, .fnil⟩
theorem ti156_ok : TyOk Try.prog 156 ti156 := ⟨Try.underlying156, ⟨Try.t156, _, info_of Try.type156, rfl, rfl, rfl, fun _ => rfl, rfl⟩⟩
def ti157 : TI := ⟨Go.TypeDesc.struct #[{ name := "_interface", type := 17, offset := 0, embedded := false, tag := "", pkgPath := "runtime", byteOffset := 0 }, { name := "concrete", type := 17, offset := 1, embedded := false, tag := "", pkgPath := "runtime", byteOffset := 8 }, { name := "asserted", type := 17, offset := 2, embedded := false, tag := "", pkgPath := "runtime", byteOffset := 16 }, { name := "missingMethod", type := 9, offset := 3, embedded := false, tag := "", pkgPath := "runtime", byteOffset := 24 }], 4, 40, .agg [.pnil, .pnil, .pnil, .str ({ data := #[] })]⟩
theorem ti157_ok : TyOk Try.prog 157 ti157 := ⟨Try.underlying157, ⟨Try.t157, _, info_of Try.type157, rfl, rfl, rfl, fun _ => rfl, rfl⟩⟩
def ti158 : TI := ⟨Go.TypeDesc.struct #[{ name := "_interface", type := 17, offset := 0, embedded := false, tag := "", pkgPath := "runtime", byteOffset := 0 }, { name := "concrete", type := 17, offset := 1, embedded := false, tag := "", pkgPath := "runtime", byteOffset := 8 }, { name := "asserted", type := 17, offset := 2, embedded := false, tag := "", pkgPath := "runtime", byteOffset := 16 }, { name := "missingMethod", type := 9, offset := 3, embedded := false, tag := "", pkgPath := "runtime", byteOffset := 24 }], 4, 40, .agg [.pnil, .pnil, .pnil, .str ({ data := #[] })]⟩
theorem ti158_ok : TyOk Try.prog 158 ti158 := ⟨Try.underlying158, ⟨Try.t158, _, info_of Try.type158, rfl, rfl, rfl, fun _ => rfl, rfl⟩⟩
def ti159 : TI := ⟨Go.TypeDesc.array 0 16, 0, 0, .agg []⟩
theorem ti159_ok : TyOk Try.prog 159 ti159 := ⟨Try.underlying159, ⟨Try.t159, _, info_of Try.type159, rfl, rfl, rfl, fun _ => rfl, rfl⟩⟩
def ti160 : TI := ⟨Go.TypeDesc.struct #[{ name := "_", type := 159, offset := 0, embedded := false, tag := "", pkgPath := "runtime", byteOffset := 0 }], 0, 0, .agg []⟩
theorem ti160_ok : TyOk Try.prog 160 ti160 := ⟨Try.underlying160, ⟨Try.t160, _, info_of Try.type160, rfl, rfl, rfl, fun _ => rfl, rfl⟩⟩
def ti161 : TI := ⟨Go.TypeDesc.struct #[{ name := "_", type := 159, offset := 0, embedded := false, tag := "", pkgPath := "runtime", byteOffset := 0 }], 0, 0, .agg []⟩
theorem ti161_ok : TyOk Try.prog 161 ti161 := ⟨Try.underlying161, ⟨Try.t161, _, info_of Try.type161, rfl, rfl, rfl, fun _ => rfl, rfl⟩⟩
def ti162 : TI := ⟨Go.TypeDesc.int Go.IntKind.u8, 1, 1, .int .u8 0⟩
theorem ti162_ok : TyOk Try.prog 162 ti162 := ⟨Try.underlying162, ⟨Try.t162, _, info_of Try.type162, rfl, rfl, rfl, fun _ => rfl, rfl⟩⟩
def ti163 : TI := ⟨Go.TypeDesc.int Go.IntKind.u8, 1, 1, .int .u8 0⟩
theorem ti163_ok : TyOk Try.prog 163 ti163 := ⟨Try.underlying163, ⟨Try.t163, _, info_of Try.type163, rfl, rfl, rfl, fun _ => rfl, rfl⟩⟩
def ti164 : TI := ⟨Go.TypeDesc.func #[171, 171] #[4] false, 1, 8, .fnil⟩
theorem ti164_ok : TyOk Try.prog 164 ti164 := ⟨Try.underlying164, ⟨Try.t164, _, info_of Try.type164, rfl, rfl, rfl, fun _ => rfl, rfl⟩⟩
def ti165 : TI := ⟨Go.TypeDesc.pointer 5, 1, 8, .pnil⟩
theorem ti165_ok : TyOk Try.prog 165 ti165 := ⟨Try.underlying165, ⟨Try.t165, _, info_of Try.type165, rfl, rfl, rfl, fun _ => rfl, rfl⟩⟩
def ti166 : TI := ⟨Go.TypeDesc.int Go.IntKind.i32, 1, 4, .int .i32 0⟩
theorem ti166_ok : TyOk Try.prog 166 ti166 := ⟨Try.underlying166, ⟨Try.t166, _, info_of Try.type166, rfl, rfl, rfl, fun _ => rfl, rfl⟩⟩
def ti167 : TI := ⟨Go.TypeDesc.int Go.IntKind.i32, 1, 4, .int .i32 0⟩
theorem ti167_ok : TyOk Try.prog 167 ti167 := ⟨Try.underlying167, ⟨Try.t167, _, info_of Try.type167, rfl, rfl, rfl, fun _ => rfl, rfl⟩⟩
def ti168 : TI := ⟨Go.TypeDesc.struct #[{ name := "Size_", type := 12, offset := 0, embedded := false, tag := "", pkgPath := "", byteOffset := 0 }, { name := "PtrBytes", type := 12, offset := 1, embedded := false, tag := "", pkgPath := "", byteOffset := 8 }, { name := "Hash", type := 143, offset := 2, embedded := false, tag := "", pkgPath := "", byteOffset := 16 }, { name := "TFlag", type := 162, offset := 3, embedded := false, tag := "", pkgPath := "", byteOffset := 20 }, { name := "Align_", type := 5, offset := 4, embedded := false, tag := "", pkgPath := "", byteOffset := 21 }, { name := "FieldAlign_", type := 5, offset := 5, embedded := false, tag := "", pkgPath := "", byteOffset := 22 }, { name := "Kind_", type := 163, offset := 6, embedded := false, tag := "", pkgPath := "", byteOffset := 23 }, { name := "Equal", type := 164, offset := 7, embedded := false, tag := "", pkgPath := "", byteOffset := 24 }, { name := "GCData", type := 165, offset := 8, embedded := false, tag := "", pkgPath := "", byteOffset := 32 }, { name := "Str", type := 166, offset := 9, embedded := false, tag := "", pkgPath := "", byteOffset := 40 }, { name := "PtrToThis", type := 167, offset := 10, embedded := false, tag := "", pkgPath := "", byteOffset := 44 }], 11, 48, .agg [.int .u64 0, .int .u64 0, .int .u32 0, .int .u8 0, .int .u8 0, .int .u8 0, .int .u8 0, .fnil, .pnil, .int .i32 0, .int .i32 0]⟩
theorem ti168_ok : TyOk Try.prog 168 ti168 := ⟨Try.underlying168, ⟨Try.t168, _, info_of Try.type168, rfl, rfl, rfl, fun _ => rfl, rfl⟩⟩
def ti169 : TI := ⟨Go.TypeDesc.struct #[{ name := "Size_", type := 12, offset := 0, embedded := false, tag := "", pkgPath := "", byteOffset := 0 }, { name := "PtrBytes", type := 12, offset := 1, embedded := false, tag := "", pkgPath := "", byteOffset := 8 }, { name := "Hash", type := 143, offset := 2, embedded := false, tag := "", pkgPath := "", byteOffset := 16 }, { name := "TFlag", type := 162, offset := 3, embedded := false, tag := "", pkgPath := "", byteOffset := 20 }, { name := "Align_", type := 5, offset := 4, embedded := false, tag := "", pkgPath := "", byteOffset := 21 }, { name := "FieldAlign_", type := 5, offset := 5, embedded := false, tag := "", pkgPath := "", byteOffset := 22 }, { name := "Kind_", type := 163, offset := 6, embedded := false, tag := "", pkgPath := "", byteOffset := 23 }, { name := "Equal", type := 164, offset := 7, embedded := false, tag := "", pkgPath := "", byteOffset := 24 }, { name := "GCData", type := 165, offset := 8, embedded := false, tag := "", pkgPath := "", byteOffset := 32 }, { name := "Str", type := 166, offset := 9, embedded := false, tag := "", pkgPath := "", byteOffset := 40 }, { name := "PtrToThis", type := 167, offset := 10, embedded := false, tag := "", pkgPath := "", byteOffset := 44 }], 11, 48, .agg [.int .u64 0, .int .u64 0, .int .u32 0, .int .u8 0, .int .u8 0, .int .u8 0, .int .u8 0, .fnil, .pnil, .int .i32 0, .int .i32 0]⟩
theorem ti169_ok : TyOk Try.prog 169 ti169 := ⟨Try.underlying169, ⟨Try.t169, _, info_of Try.type169, rfl, rfl, rfl, fun _ => rfl, rfl⟩⟩
def ti170 : TI := ⟨Go.TypeDesc.func #[80, 3, 3] #[4] false, 1, 8, .fnil⟩
theorem ti170_ok : TyOk Try.prog 170 ti170 := ⟨Try.underlying170, ⟨Try.t170, _, info_of Try.type170, rfl, rfl, rfl, fun _ => rfl, rfl⟩⟩
def ti171 : TI := ⟨Go.TypeDesc.unsafePointer, 1, 8, .pnil⟩
theorem ti171_ok : TyOk Try.prog 171 ti171 := ⟨Try.underlying171, ⟨Try.t171, _, info_of Try.type171, rfl, rfl, rfl, fun _ => rfl, rfl⟩⟩
def tyL : List (Option TI) := [none, some ti1, some ti2, some ti3, some ti4, some ti5, some ti6, some ti7, some ti8, some ti9, some ti10, some ti11, some ti12, some ti13, some ti14, some ti15, some ti16, some ti17, some ti18, some ti19, some ti20, some ti21, some ti22, some ti23, some ti24, some ti25, some ti26, some ti27, some ti28, some ti29, none, some ti31, none, some ti33, none, some ti35, none, some ti37, some ti38, some ti39, none, some ti41, some ti42, some ti43, some ti44, some ti45, some ti46, some ti47, some ti48, some ti49, some ti50, some ti51, none, some ti53, some ti54, some ti55, some ti56, some ti57, some ti58, some ti59, some ti60, some ti61, some ti62, some ti63, some ti64, some ti65, some ti66, some ti67, some ti68, some ti69, some ti70, some ti71, some ti72, some ti73, some ti74, some ti75, some ti76, some ti77, some ti78, some ti79, some ti80, some ti81, some ti82, none, some ti84, some ti85, some ti86, some ti87, some ti88, some ti89, some ti90, some ti91, some ti92, some ti93, some ti94, some ti95, some ti96, some ti97, some ti98, some ti99, some ti100, some ti101, some ti102, some ti103, some ti104, some ti105, some ti106, some ti107, some ti108, some ti109, some ti110, some ti111, some ti112, some ti113, some ti114, some ti115, some ti116, some ti117, some ti118, some ti119, some ti120, some ti121, some ti122, some ti123, some ti124, some ti125, some ti126, none, some ti128, some ti129, some ti130, some ti131, some ti132, some ti133, some ti134, some ti135, some ti136, some ti137, some ti138, some ti139, some ti140, some ti141, some ti142, some ti143, some ti144, some ti145, some ti146, some ti147, some ti148, some ti149, some ti150, some ti151, some ti152, some ti153, some ti154, some ti155, some ti156, some ti157, some ti158, some ti159, some ti160, some ti161, some ti162, some ti163, some ti164, some ti165, some ti166, some ti167, some ti168, some ti169, some ti170, some ti171]
def fnL : List (Option Unit) := [none, none, some (), some (), some (), some (), some (), some (), some (), some (), some (), some (), some (), some (), some (), some (), some (), some (), some (), some (), some (), some (), some (), some (), some (), some (), some (), some (), some (), some (), some (), some (), some (), some (), some (), some (), some (), some (), some (), some (), some (), some (), some (), some (), some (), some (), some (), some (), some (), some (), some (), some (), some (), some (), some (), some (), some (), some (), some (), some (), some (), some (), some (), some (), some (), some (), some (), some (), some (), some (), some (), some (), some (), some (), some (), some (), some (), some (), some (), some (), some (), some (), some (), some (), some (), some (), some (), some (), some (), some (), some (), some (), some (), some (), some (), some (), some (), some (), some (), some (), some (), some (), some (), some (), some (), some (), some (), some (), some (), some (), some (), some (), some (), some (), some (), some (), some (), some (), some (), some (), none, none, none, none, none, none, none, none, none, none, none, none, none, none, none, some (), some (), some (), some ()]
theorem cT {P : Program} {k : Nat} {i : TI} {xs : List (Option TI)} (h : TyOk P k i) (hx : AllTy P (k + 1) xs) : AllTy P k (some i :: xs) := ⟨fun _ e => Option.some.inj e ▸ h, hx⟩
theorem cN {P : Program} {k : Nat} {xs : List (Option TI)} (hx : AllTy P (k + 1) xs) : AllTy P k (none :: xs) := ⟨fun _ e => (nomatch e), hx⟩
theorem dT {P : Program} {k : Nat} {f : Func} {xs : List (Option Unit)} (h : P.funcs[k]? = some f) (hb : f.body.isSome = true) (hn : (f.name == "runtime.NumGoroutine") = false) (hx : AllFn P (k + 1) xs) : AllFn P k (some () :: xs) := ⟨fun _ => ⟨f, h, hb, hn⟩, hx⟩
theorem dN {P : Program} {k : Nat} {xs : List (Option Unit)} (hx : AllFn P (k + 1) xs) : AllFn P k (none :: xs) := ⟨fun e => (nomatch e), hx⟩

theorem tyL_ok : AllTy Try.prog 0 tyL := cN (cT ti1_ok (cT ti2_ok (cT ti3_ok (cT ti4_ok (cT ti5_ok (cT ti6_ok (cT ti7_ok (cT ti8_ok (cT ti9_ok (cT ti10_ok (cT ti11_ok (cT ti12_ok (cT ti13_ok (cT ti14_ok (cT ti15_ok (cT ti16_ok (cT ti17_ok (cT ti18_ok (cT ti19_ok (cT ti20_ok (cT ti21_ok (cT ti22_ok (cT ti23_ok (cT ti24_ok (cT ti25_ok (cT ti26_ok (cT ti27_ok (cT ti28_ok (cT ti29_ok (cN (cT ti31_ok (cN (cT ti33_ok (cN (cT ti35_ok (cN (cT ti37_ok (cT ti38_ok (cT ti39_ok (cN (cT ti41_ok (cT ti42_ok (cT ti43_ok (cT ti44_ok (cT ti45_ok (cT ti46_ok (cT ti47_ok (cT ti48_ok (cT ti49_ok (cT ti50_ok (cT ti51_ok (cN (cT ti53_ok (cT ti54_ok (cT ti55_ok (cT ti56_ok (cT ti57_ok (cT ti58_ok (cT ti59_ok (cT ti60_ok (cT ti61_ok (cT ti62_ok (cT ti63_ok (cT ti64_ok (cT ti65_ok (cT ti66_ok (cT ti67_ok (cT ti68_ok (cT ti69_ok (cT ti70_ok (cT ti71_ok (cT ti72_ok (cT ti73_ok (cT ti74_ok (cT ti75_ok (cT ti76_ok (cT ti77_ok (cT ti78_ok (cT ti79_ok (cT ti80_ok (cT ti81_ok (cT ti82_ok (cN (cT ti84_ok (cT ti85_ok (cT ti86_ok (cT ti87_ok (cT ti88_ok (cT ti89_ok (cT ti90_ok (cT ti91_ok (cT ti92_ok (cT ti93_ok (cT ti94_ok (cT ti95_ok (cT ti96_ok (cT ti97_ok (cT ti98_ok (cT ti99_ok (cT ti100_ok (cT ti101_ok (cT ti102_ok (cT ti103_ok (cT ti104_ok (cT ti105_ok (cT ti106_ok (cT ti107_ok (cT ti108_ok (cT ti109_ok (cT ti110_ok (cT ti111_ok (cT ti112_ok (cT ti113_ok (cT ti114_ok (cT ti115_ok (cT ti116_ok (cT ti117_ok (cT ti118_ok (cT ti119_ok (cT ti120_ok (cT ti121_ok (cT ti122_ok (cT ti123_ok (cT ti124_ok (cT ti125_ok (cT ti126_ok (cN (cT ti128_ok (cT ti129_ok (cT ti130_ok (cT ti131_ok (cT ti132_ok (cT ti133_ok (cT ti134_ok (cT ti135_ok (cT ti136_ok (cT ti137_ok (cT ti138_ok (cT ti139_ok (cT ti140_ok (cT ti141_ok (cT ti142_ok (cT ti143_ok (cT ti144_ok (cT ti145_ok (cT ti146_ok (cT ti147_ok (cT ti148_ok (cT ti149_ok (cT ti150_ok (cT ti151_ok (cT ti152_ok (cT ti153_ok (cT ti154_ok (cT ti155_ok (cT ti156_ok (cT ti157_ok (cT ti158_ok (cT ti159_ok (cT ti160_ok (cT ti161_ok (cT ti162_ok (cT ti163_ok (cT ti164_ok (cT ti165_ok (cT ti166_ok (cT ti167_ok (cT ti168_ok (cT ti169_ok (cT ti170_ok (cT ti171_ok (trivial))))))))))))))))))))))))))))))))))))))))))))))))))))))))))))))))))))))))))))))))))))))))))))))))))))))))))))))))))))))))))))))))))))))))))))))))))))))))))))))))))))))))))))
theorem fnL_ok : AllFn Try.prog 0 fnL := dN (dN (dT Try.func2 rfl (by decide) (dT Try.func3 rfl (by decide) (dT Try.func4 rfl (by decide) (dT Try.func5 rfl (by decide) (dT Try.func6 rfl (by decide) (dT Try.func7 rfl (by decide) (dT Try.func8 rfl (by decide) (dT Try.func9 rfl (by decide) (dT Try.func10 rfl (by decide) (dT Try.func11 rfl (by decide) (dT Try.func12 rfl (by decide) (dT Try.func13 rfl (by decide) (dT Try.func14 rfl (by decide) (dT Try.func15 rfl (by decide) (dT Try.func16 rfl (by decide) (dT Try.func17 rfl (by decide) (dT Try.func18 rfl (by decide) (dT Try.func19 rfl (by decide) (dT Try.func20 rfl (by decide) (dT Try.func21 rfl (by decide) (dT Try.func22 rfl (by decide) (dT Try.func23 rfl (by decide) (dT Try.func24 rfl (by decide) (dT Try.func25 rfl (by decide) (dT Try.func26 rfl (by decide) (dT Try.func27 rfl (by decide) (dT Try.func28 rfl (by decide) (dT Try.func29 rfl (by decide) (dT Try.func30 rfl (by decide) (dT Try.func31 rfl (by decide) (dT Try.func32 rfl (by decide) (dT Try.func33 rfl (by decide) (dT Try.func34 rfl (by decide) (dT Try.func35 rfl (by decide) (dT Try.func36 rfl (by decide) (dT Try.func37 rfl (by decide) (dT Try.func38 rfl (by decide) (dT Try.func39 rfl (by decide) (dT Try.func40 rfl (by decide) (dT Try.func41 rfl (by decide) (dT Try.func42 rfl (by decide) (dT Try.func43 rfl (by decide) (dT Try.func44 rfl (by decide) (dT Try.func45 rfl (by decide) (dT Try.func46 rfl (by decide) (dT Try.func47 rfl (by decide) (dT Try.func48 rfl (by decide) (dT Try.func49 rfl (by decide) (dT Try.func50 rfl (by decide) (dT Try.func51 rfl (by decide) (dT Try.func52 rfl (by decide) (dT Try.func53 rfl (by decide) (dT Try.func54 rfl (by decide) (dT Try.func55 rfl (by decide) (dT Try.func56 rfl (by decide) (dT Try.func57 rfl (by decide) (dT Try.func58 rfl (by decide) (dT Try.func59 rfl (by decide) (dT Try.func60 rfl (by decide) (dT Try.func61 rfl (by decide) (dT Try.func62 rfl (by decide) (dT Try.func63 rfl (by decide) (dT Try.func64 rfl (by decide) (dT Try.func65 rfl (by decide) (dT Try.func66 rfl (by decide) (dT Try.func67 rfl (by decide) (dT Try.func68 rfl (by decide) (dT Try.func69 rfl (by decide) (dT Try.func70 rfl (by decide) (dT Try.func71 rfl (by decide) (dT Try.func72 rfl (by decide) (dT Try.func73 rfl (by decide) (dT Try.func74 rfl (by decide) (dT Try.func75 rfl (by decide) (dT Try.func76 rfl (by decide) (dT Try.func77 rfl (by decide) (dT Try.func78 rfl (by decide) (dT Try.func79 rfl (by decide) (dT Try.func80 rfl (by decide) (dT Try.func81 rfl (by decide) (dT Try.func82 rfl (by decide) (dT Try.func83 rfl (by decide) (dT Try.func84 rfl (by decide) (dT Try.func85 rfl (by decide) (dT Try.func86 rfl (by decide) (dT Try.func87 rfl (by decide) (dT Try.func88 rfl (by decide) (dT Try.func89 rfl (by decide) (dT Try.func90 rfl (by decide) (dT Try.func91 rfl (by decide) (dT Try.func92 rfl (by decide) (dT Try.func93 rfl (by decide) (dT Try.func94 rfl (by decide) (dT Try.func95 rfl (by decide) (dT Try.func96 rfl (by decide) (dT Try.func97 rfl (by decide) (dT Try.func98 rfl (by decide) (dT Try.func99 rfl (by decide) (dT Try.func100 rfl (by decide) (dT Try.func101 rfl (by decide) (dT Try.func102 rfl (by decide) (dT Try.func103 rfl (by decide) (dT Try.func104 rfl (by decide) (dT Try.func105 rfl (by decide) (dT Try.func106 rfl (by decide) (dT Try.func107 rfl (by decide) (dT Try.func108 rfl (by decide) (dT Try.func109 rfl (by decide) (dT Try.func110 rfl (by decide) (dT Try.func111 rfl (by decide) (dT Try.func112 rfl (by decide) (dT Try.func113 rfl (by decide) (dT Try.func114 rfl (by decide) (dT Try.func115 rfl (by decide) (dT Try.func116 rfl (by decide) (dT Try.func117 rfl (by decide) (dT Try.func118 rfl (by decide) (dT Try.func119 rfl (by decide) (dN (dN (dN (dN (dN (dN (dN (dN (dN (dN (dN (dN (dN (dN (dN (dT Try.func135 rfl (by decide) (dT Try.func136 rfl (by decide) (dT Try.func137 rfl (by decide) (dT Try.func138 rfl (by decide) (trivial)))))))))))))))))))))))))))))))))))))))))))))))))))))))))))))))))))))))))))))))))))))))))))))))))))))))))))))))))))))))))))))))))))))))))))

def E : Env where
 ty t := nth tyL t
 wrap := false
 fn k := match nth fnL k with
  | some _ => true
  | none => false
 meth t name := match Nat.beq t 92 with
  | true => if name = "dipworks/ticket.is" then some 136 else none
  | false => match Nat.beq t 94 with
   | true => if name = "dipworks/ticket.is" then some 137 else none
   | false => match Nat.beq t 108 with
    | true => if name = "dipworks/ticket.is" then some 138 else none
    | false => none
 memo _ := none
 ahead _ _ := false
 eqs t := match Nat.beq t 28 with
  | true => some 2
  | false => match Nat.beq t 57 with
   | true => some 5
   | false => none
 eqb t := match Nat.beq t 89 with
  | true => some 2
  | false => match Nat.beq t 59 with
   | true => some 4
   | false => none
 cm _ := false
 gm t := match Nat.beq t 100 with
  | true => some g100
  | false => none
def Ew : Env := { E with wrap := true }
theorem E_ok : E.ok Try.prog where
 ty t i h := by simpa using nth_ty (k := 0) tyL_ok h
 fn k h := by
  have h' : nth fnL k = some () := by
   unfold E at h
   cases hk : nth fnL k with
   | none => simp [hk] at h
   | some u => rfl
  simpa using nth_fn (k := 0) fnL_ok h'
 meth t n f h := by
  simp only [E] at h
  split at h
  ·rename_i ht
   have ht : t = 92 := by simpa using ht
   split at h
   ·rename_i hn
    simp only [Option.some.injEq] at h
    subst ht hn h
    exact ⟨rfl, meth92⟩
   ·cases h
  ·split at h
   ·rename_i ht
    have ht : t = 94 := by simpa using ht
    split at h
    ·rename_i hn
     simp only [Option.some.injEq] at h
     subst ht hn h
     exact ⟨rfl, meth94⟩
    ·cases h
   ·split at h
    ·rename_i ht
     have ht : t = 108 := by simpa using ht
     split at h
     ·rename_i hn
      simp only [Option.some.injEq] at h
      subst ht hn h
      exact ⟨rfl, meth108⟩
     ·cases h
    ·cases h
 mixed := rfl
 memo t n h := by cases h
 ahead t n h := by cases h
 eqs t n h := by
  simp only [E] at h
  split at h
  ·rename_i ht
   have ht : t = 28 := by simpa using ht
   simp only [Option.some.injEq] at h
   subst ht h
   exact eq28
  ·split at h
   ·rename_i ht
    have ht : t = 57 := by simpa using ht
    simp only [Option.some.injEq] at h
    subst ht h
    exact eq57
   ·cases h
 eqb t n h := by
  simp only [E] at h
  split at h
  ·rename_i ht
   have ht : t = 89 := by simpa using ht
   simp only [Option.some.injEq] at h
   subst ht h
   exact eqb89
  ·split at h
   ·rename_i ht
    have ht : t = 59 := by simpa using ht
    simp only [Option.some.injEq] at h
    subst ht h
    exact eqb59
   ·cases h
 cm t h := by cases h
 gm t g h := by
  simp only [E] at h
  split at h
  ·rename_i ht
   have ht : t = 100 := by simpa using ht
   simp only [Option.some.injEq] at h
   subst ht h
   exact gm100
  ·cases h
theorem Ew_ok : Ew.ok Try.prog := ⟨E_ok.ty, E_ok.fn, E_ok.meth, E_ok.mixed, E_ok.memo, E_ok.ahead, E_ok.eqs, E_ok.eqb, E_ok.cm, E_ok.gm⟩
end Go.Proofs.Ytioajogaghgipaa
