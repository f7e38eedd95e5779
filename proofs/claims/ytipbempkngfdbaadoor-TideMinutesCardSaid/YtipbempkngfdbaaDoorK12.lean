/-
  Parts: E.
-/
import Derived.Test.YtipbempkngfdbaaDoorK8
import Derived.Test.YtipbempkngfdbaaDoorK11
import Derived.Test.YtipbempkngfdbaaDoorProg
set_option linter.unusedVariables false
/-
  The tables of types and functions, as the layer Sy reads them, and the proof that they tell the truth.
-/
set_option maxRecDepth 100000
namespace Go.Proofs.YtipbempkngfdbaaDoor
open Go Go.Sy

def nth {α : Type} : List (Option α) → Nat → Option α
  | [], _ => none
  | x :: _, 0 => x
  | _ :: xs, n + 1 => nth xs n
def AllTy (P : Program) : Nat → List (Option TI) → Prop
  | _, [] => True
  | k, x :: xs => (∀ i, x = some i → TyOk P k i) ∧ AllTy P (k + 1) xs
theorem nth_ty {P : Program} : ∀ {l : List (Option TI)} {k t : Nat} {i : TI}, AllTy P k l → nth l t = some i → TyOk P (k + t) i
  | [], _, _, _, _, h => by cases h
  | x :: xs, k, 0, i, h, e => h.1 i e
  | x :: xs, k, t + 1, i, h, e => by
    have := nth_ty (t := t) h.2 e
    rwa [Nat.add_assoc, Nat.add_comm 1] at this
def AllFn (P : Program) : Nat → List (Option Unit) → Prop
  | _, [] => True
  | k, x :: xs => (x = some () → ∃ f, P.funcs[k]? = some f ∧ f.body.isSome = true ∧ (f.name == "runtime.NumGoroutine") = false) ∧ AllFn P (k + 1) xs
theorem nth_fn {P : Program} : ∀ {l : List (Option Unit)} {k t : Nat}, AllFn P k l → nth l t = some () → ∃ f, P.funcs[k + t]? = some f ∧ f.body.isSome = true ∧ (f.name == "runtime.NumGoroutine") = false
  | [], _, _, _, h => by cases h
  | x :: xs, k, 0, h, e => h.1 e
  | x :: xs, k, t + 1, h, e => by
    have := nth_fn (t := t) h.2 e
    rwa [Nat.add_assoc, Nat.add_comm 1] at this

theorem info_of {t : Nat} {i : TypeInfo} (h : Tryd.prog.types[t]? = some i) : Tryd.prog.info? t = some i := by
  have hl : t < Tryd.prog.types.size := by
    rcases Nat.lt_or_ge t Tryd.prog.types.size with hl | hl
    · exact hl
    · rw [Array.getElem?_eq_none hl] at h; cases h
  show Tables.info? Tryd.prog.toTables t = some i
  unfold Tables.info?
  rw [if_pos hl]; exact h

def ti1 : TI := ⟨Go.TypeDesc.func #[] #[] false, 1, 8, .fnil⟩
theorem ti1_ok : TyOk Tryd.prog 1 ti1 := ⟨Tryd.underlying1, ⟨Tryd.t1, _, info_of Tryd.type1, rfl, rfl, rfl, fun _ => rfl, rfl⟩⟩
def ti2 : TI := ⟨Go.TypeDesc.int Go.IntKind.i64, 1, 8, .int .i64 0⟩
theorem ti2_ok : TyOk Tryd.prog 2 ti2 := ⟨Tryd.underlying2, ⟨Tryd.t2, _, info_of Tryd.type2, rfl, rfl, rfl, fun _ => rfl, rfl⟩⟩
def ti3 : TI := ⟨Go.TypeDesc.int Go.IntKind.i64, 1, 8, .int .i64 0⟩
theorem ti3_ok : TyOk Tryd.prog 3 ti3 := ⟨Tryd.underlying3, ⟨Tryd.t3, _, info_of Tryd.type3, rfl, rfl, rfl, fun _ => rfl, rfl⟩⟩
def ti4 : TI := ⟨Go.TypeDesc.bool, 1, 1, .bool false⟩
theorem ti4_ok : TyOk Tryd.prog 4 ti4 := ⟨Tryd.underlying4, ⟨Tryd.t4, _, info_of Tryd.type4, rfl, rfl, rfl, fun _ => rfl, rfl⟩⟩
def ti5 : TI := ⟨Go.TypeDesc.int Go.IntKind.u8, 1, 1, .int .u8 0⟩
theorem ti5_ok : TyOk Tryd.prog 5 ti5 := ⟨Tryd.underlying5, ⟨Tryd.t5, _, info_of Tryd.type5, rfl, rfl, rfl, fun _ => rfl, rfl⟩⟩
def ti6 : TI := ⟨Go.TypeDesc.int Go.IntKind.u8, 1, 1, .int .u8 0⟩
theorem ti6_ok : TyOk Tryd.prog 6 ti6 := ⟨Tryd.underlying6, ⟨Tryd.t6, _, info_of Tryd.type6, rfl, rfl, rfl, fun _ => rfl, rfl⟩⟩
def ti7 : TI := ⟨Go.TypeDesc.struct #[{ name := "x", type := 2, offset := 0, embedded := false, tag := "", pkgPath := "runtime", byteOffset := 0 }, { name := "y", type := 3, offset := 1, embedded := false, tag := "", pkgPath := "runtime", byteOffset := 8 }, { name := "signed", type := 4, offset := 2, embedded := false, tag := "", pkgPath := "runtime", byteOffset := 16 }, { name := "code", type := 6, offset := 3, embedded := false, tag := "", pkgPath := "runtime", byteOffset := 17 }], 4, 24, .agg [.int .i64 0, .int .i64 0, .bool false, .int .u8 0]⟩
theorem ti7_ok : TyOk Tryd.prog 7 ti7 := ⟨Tryd.underlying7, ⟨Tryd.t7, _, info_of Tryd.type7, rfl, rfl, rfl, fun _ => rfl, rfl⟩⟩
def ti8 : TI := ⟨Go.TypeDesc.struct #[{ name := "x", type := 2, offset := 0, embedded := false, tag := "", pkgPath := "runtime", byteOffset := 0 }, { name := "y", type := 3, offset := 1, embedded := false, tag := "", pkgPath := "runtime", byteOffset := 8 }, { name := "signed", type := 4, offset := 2, embedded := false, tag := "", pkgPath := "runtime", byteOffset := 16 }, { name := "code", type := 6, offset := 3, embedded := false, tag := "", pkgPath := "runtime", byteOffset := 17 }], 4, 24, .agg [.int .i64 0, .int .i64 0, .bool false, .int .u8 0]⟩
theorem ti8_ok : TyOk Tryd.prog 8 ti8 := ⟨Tryd.underlying8, ⟨Tryd.t8, _, info_of Tryd.type8, rfl, rfl, rfl, fun _ => rfl, rfl⟩⟩
def ti9 : TI := ⟨Go.TypeDesc.string, 1, 16, .str ({ data := #[] })⟩
theorem ti9_ok : TyOk Tryd.prog 9 ti9 := ⟨Tryd.underlying9, ⟨Tryd.t9, _, info_of Tryd.type9, rfl, rfl, rfl, fun _ => rfl, rfl⟩⟩
def ti10 : TI := ⟨Go.TypeDesc.string, 1, 16, .str ({ data := #[] })⟩
theorem ti10_ok : TyOk Tryd.prog 10 ti10 := ⟨Tryd.underlying10, ⟨Tryd.t10, _, info_of Tryd.type10, rfl, rfl, rfl, fun _ => rfl, rfl⟩⟩
def ti11 : TI := ⟨Go.TypeDesc.string, 1, 16, .str ({ data := #[] })⟩
theorem ti11_ok : TyOk Tryd.prog 11 ti11 := ⟨Tryd.underlying11, ⟨Tryd.t11, _, info_of Tryd.type11, rfl, rfl, rfl, fun _ => rfl, rfl⟩⟩
def ti12 : TI := ⟨Go.TypeDesc.int Go.IntKind.u64, 1, 8, .int .u64 0⟩
theorem ti12_ok : TyOk Tryd.prog 12 ti12 := ⟨Tryd.underlying12, ⟨Tryd.t12, _, info_of Tryd.type12, rfl, rfl, rfl, fun _ => rfl, rfl⟩⟩
def ti13 : TI := ⟨Go.TypeDesc.struct #[{ name := "msg", type := 9, offset := 0, embedded := false, tag := "", pkgPath := "runtime", byteOffset := 0 }, { name := "addr", type := 12, offset := 1, embedded := false, tag := "", pkgPath := "runtime", byteOffset := 16 }], 2, 24, .agg [.str ({ data := #[] }), .int .u64 0]⟩
theorem ti13_ok : TyOk Tryd.prog 13 ti13 := ⟨Tryd.underlying13, ⟨Tryd.t13, _, info_of Tryd.type13, rfl, rfl, rfl, fun _ => rfl, rfl⟩⟩
def ti14 : TI := ⟨Go.TypeDesc.struct #[{ name := "msg", type := 9, offset := 0, embedded := false, tag := "", pkgPath := "runtime", byteOffset := 0 }, { name := "addr", type := 12, offset := 1, embedded := false, tag := "", pkgPath := "runtime", byteOffset := 16 }], 2, 24, .agg [.str ({ data := #[] }), .int .u64 0]⟩
theorem ti14_ok : TyOk Tryd.prog 14 ti14 := ⟨Tryd.underlying14, ⟨Tryd.t14, _, info_of Tryd.type14, rfl, rfl, rfl, fun _ => rfl, rfl⟩⟩
def ti15 : TI := ⟨Go.TypeDesc.pointer 165, 1, 8, .pnil⟩
theorem ti15_ok : TyOk Tryd.prog 15 ti15 := ⟨Tryd.underlying15, ⟨Tryd.t15, _, info_of Tryd.type15, rfl, rfl, rfl, fun _ => rfl, rfl⟩⟩
def ti16 : TI := ⟨Go.TypeDesc.pointer 168, 1, 8, .pnil⟩
theorem ti16_ok : TyOk Tryd.prog 16 ti16 := ⟨Tryd.underlying16, ⟨Tryd.t16, _, info_of Tryd.type16, rfl, rfl, rfl, fun _ => rfl, rfl⟩⟩
def ti17 : TI := ⟨Go.TypeDesc.pointer 176, 1, 8, .pnil⟩
theorem ti17_ok : TyOk Tryd.prog 17 ti17 := ⟨Tryd.underlying17, ⟨Tryd.t17, _, info_of Tryd.type17, rfl, rfl, rfl, fun _ => rfl, rfl⟩⟩
def ti18 : TI := ⟨Go.TypeDesc.struct #[{ name := "typ", type := 17, offset := 0, embedded := false, tag := "", pkgPath := "internal/runtime/maps", byteOffset := 0 }], 1, 8, .agg [.pnil]⟩
theorem ti18_ok : TyOk Tryd.prog 18 ti18 := ⟨Tryd.underlying18, ⟨Tryd.t18, _, info_of Tryd.type18, rfl, rfl, rfl, fun _ => rfl, rfl⟩⟩
def ti19 : TI := ⟨Go.TypeDesc.struct #[{ name := "typ", type := 17, offset := 0, embedded := false, tag := "", pkgPath := "internal/runtime/maps", byteOffset := 0 }], 1, 8, .agg [.pnil]⟩
theorem ti19_ok : TyOk Tryd.prog 19 ti19 := ⟨Tryd.underlying19, ⟨Tryd.t19, _, info_of Tryd.type19, rfl, rfl, rfl, fun _ => rfl, rfl⟩⟩
def ti20 : TI := ⟨Go.TypeDesc.interface #[], 1, 16, .inil⟩
theorem ti20_ok : TyOk Tryd.prog 20 ti20 := ⟨Tryd.underlying20, ⟨Tryd.t20, _, info_of Tryd.type20, rfl, rfl, rfl, fun _ => rfl, rfl⟩⟩
def ti21 : TI := ⟨Go.TypeDesc.int Go.IntKind.i32, 1, 4, .int .i32 0⟩
theorem ti21_ok : TyOk Tryd.prog 21 ti21 := ⟨Tryd.underlying21, ⟨Tryd.t21, _, info_of Tryd.type21, rfl, rfl, rfl, fun _ => rfl, rfl⟩⟩
def ti22 : TI := ⟨Go.TypeDesc.slice 54, 1, 24, .snil⟩
theorem ti22_ok : TyOk Tryd.prog 22 ti22 := ⟨Tryd.underlying22, ⟨Tryd.t22, _, info_of Tryd.type22, rfl, rfl, rfl, fun _ => rfl, rfl⟩⟩
def ti23 : TI := ⟨Go.TypeDesc.slice 41, 1, 24, .snil⟩
theorem ti23_ok : TyOk Tryd.prog 23 ti23 := ⟨Tryd.underlying23, ⟨Tryd.t23, _, info_of Tryd.type23, rfl, rfl, rfl, fun _ => rfl, rfl⟩⟩
def ti24 : TI := ⟨Go.TypeDesc.slice 62, 1, 24, .snil⟩
theorem ti24_ok : TyOk Tryd.prog 24 ti24 := ⟨Tryd.underlying24, ⟨Tryd.t24, _, info_of Tryd.type24, rfl, rfl, rfl, fun _ => rfl, rfl⟩⟩
def ti25 : TI := ⟨Go.TypeDesc.struct #[{ name := "Marks", type := 22, offset := 0, embedded := false, tag := "", pkgPath := "", byteOffset := 0 }, { name := "Sand", type := 23, offset := 1, embedded := false, tag := "", pkgPath := "", byteOffset := 24 }, { name := "Looks", type := 24, offset := 2, embedded := false, tag := "", pkgPath := "", byteOffset := 48 }], 3, 72, .agg [.snil, .snil, .snil]⟩
theorem ti25_ok : TyOk Tryd.prog 25 ti25 := ⟨Tryd.underlying25, ⟨Tryd.t25, _, info_of Tryd.type25, rfl, rfl, rfl, fun _ => rfl, rfl⟩⟩
def ti26 : TI := ⟨Go.TypeDesc.struct #[{ name := "Marks", type := 22, offset := 0, embedded := false, tag := "", pkgPath := "", byteOffset := 0 }, { name := "Sand", type := 23, offset := 1, embedded := false, tag := "", pkgPath := "", byteOffset := 24 }, { name := "Looks", type := 24, offset := 2, embedded := false, tag := "", pkgPath := "", byteOffset := 48 }], 3, 72, .agg [.snil, .snil, .snil]⟩
theorem ti26_ok : TyOk Tryd.prog 26 ti26 := ⟨Tryd.underlying26, ⟨Tryd.t26, _, info_of Tryd.type26, rfl, rfl, rfl, fun _ => rfl, rfl⟩⟩
def ti27 : TI := ⟨Go.TypeDesc.func #[26, 3] #[4] false, 1, 8, .fnil⟩
theorem ti27_ok : TyOk Tryd.prog 27 ti27 := ⟨Tryd.underlying27, ⟨Tryd.t27, _, info_of Tryd.type27, rfl, rfl, rfl, fun _ => rfl, rfl⟩⟩
def ti28 : TI := ⟨Go.TypeDesc.func #[] #[4] false, 1, 8, .fnil⟩
theorem ti28_ok : TyOk Tryd.prog 28 ti28 := ⟨Tryd.underlying28, ⟨Tryd.t28, _, info_of Tryd.type28, rfl, rfl, rfl, fun _ => rfl, rfl⟩⟩
def ti29 : TI := ⟨Go.TypeDesc.int Go.IntKind.i64, 1, 8, .int .i64 0⟩
theorem ti29_ok : TyOk Tryd.prog 29 ti29 := ⟨Tryd.underlying29, ⟨Tryd.t29, _, info_of Tryd.type29, rfl, rfl, rfl, fun _ => rfl, rfl⟩⟩
def ti31 : TI := ⟨Go.TypeDesc.func #[26, 3, 3, 3] #[23, 29] false, 1, 8, .fnil⟩
theorem ti31_ok : TyOk Tryd.prog 31 ti31 := ⟨Tryd.underlying31, ⟨Tryd.t31, _, info_of Tryd.type31, rfl, rfl, rfl, fun _ => rfl, rfl⟩⟩
def ti33 : TI := ⟨Go.TypeDesc.func #[26, 3, 3, 3, 4] #[3, 29] false, 1, 8, .fnil⟩
theorem ti33_ok : TyOk Tryd.prog 33 ti33 := ⟨Tryd.underlying33, ⟨Tryd.t33, _, info_of Tryd.type33, rfl, rfl, rfl, fun _ => rfl, rfl⟩⟩
def ti34 : TI := ⟨Go.TypeDesc.func #[23, 23] #[4] false, 1, 8, .fnil⟩
theorem ti34_ok : TyOk Tryd.prog 34 ti34 := ⟨Tryd.underlying34, ⟨Tryd.t34, _, info_of Tryd.type34, rfl, rfl, rfl, fun _ => rfl, rfl⟩⟩
def ti35 : TI := ⟨Go.TypeDesc.func #[26, 3, 3, 3, 3, 4] #[4] false, 1, 8, .fnil⟩
theorem ti35_ok : TyOk Tryd.prog 35 ti35 := ⟨Tryd.underlying35, ⟨Tryd.t35, _, info_of Tryd.type35, rfl, rfl, rfl, fun _ => rfl, rfl⟩⟩
def ti36 : TI := ⟨Go.TypeDesc.func #[26] #[3, 29] false, 1, 8, .fnil⟩
theorem ti36_ok : TyOk Tryd.prog 36 ti36 := ⟨Tryd.underlying36, ⟨Tryd.t36, _, info_of Tryd.type36, rfl, rfl, rfl, fun _ => rfl, rfl⟩⟩
def ti37 : TI := ⟨Go.TypeDesc.func #[26] #[4] false, 1, 8, .fnil⟩
theorem ti37_ok : TyOk Tryd.prog 37 ti37 := ⟨Tryd.underlying37, ⟨Tryd.t37, _, info_of Tryd.type37, rfl, rfl, rfl, fun _ => rfl, rfl⟩⟩
def ti38 : TI := ⟨Go.TypeDesc.struct #[{ name := "minute", type := 3, offset := 0, embedded := false, tag := "", pkgPath := "dipworks/dipworkslaw01", byteOffset := 0 }, { name := "lo", type := 3, offset := 1, embedded := false, tag := "", pkgPath := "dipworks/dipworkslaw01", byteOffset := 8 }, { name := "hi", type := 3, offset := 2, embedded := false, tag := "", pkgPath := "dipworks/dipworkslaw01", byteOffset := 16 }], 3, 24, .agg [.int .i64 0, .int .i64 0, .int .i64 0]⟩
theorem ti38_ok : TyOk Tryd.prog 38 ti38 := ⟨Tryd.underlying38, ⟨Tryd.t38, _, info_of Tryd.type38, rfl, rfl, rfl, fun _ => rfl, rfl⟩⟩
def ti39 : TI := ⟨Go.TypeDesc.slice 38, 1, 24, .snil⟩
theorem ti39_ok : TyOk Tryd.prog 39 ti39 := ⟨Tryd.underlying39, ⟨Tryd.t39, _, info_of Tryd.type39, rfl, rfl, rfl, fun _ => rfl, rfl⟩⟩
def ti40 : TI := ⟨Go.TypeDesc.struct #[{ name := "Lo", type := 3, offset := 0, embedded := false, tag := "", pkgPath := "", byteOffset := 0 }, { name := "Hi", type := 3, offset := 1, embedded := false, tag := "", pkgPath := "", byteOffset := 8 }], 2, 16, .agg [.int .i64 0, .int .i64 0]⟩
theorem ti40_ok : TyOk Tryd.prog 40 ti40 := ⟨Tryd.underlying40, ⟨Tryd.t40, _, info_of Tryd.type40, rfl, rfl, rfl, fun _ => rfl, rfl⟩⟩
def ti41 : TI := ⟨Go.TypeDesc.struct #[{ name := "Lo", type := 3, offset := 0, embedded := false, tag := "", pkgPath := "", byteOffset := 0 }, { name := "Hi", type := 3, offset := 1, embedded := false, tag := "", pkgPath := "", byteOffset := 8 }], 2, 16, .agg [.int .i64 0, .int .i64 0]⟩
theorem ti41_ok : TyOk Tryd.prog 41 ti41 := ⟨Tryd.underlying41, ⟨Tryd.t41, _, info_of Tryd.type41, rfl, rfl, rfl, fun _ => rfl, rfl⟩⟩
def ti43 : TI := ⟨Go.TypeDesc.func #[26, 3] #[41, 29] false, 1, 8, .fnil⟩
theorem ti43_ok : TyOk Tryd.prog 43 ti43 := ⟨Tryd.underlying43, ⟨Tryd.t43, _, info_of Tryd.type43, rfl, rfl, rfl, fun _ => rfl, rfl⟩⟩
def ti44 : TI := ⟨Go.TypeDesc.func #[4] #[26] false, 1, 8, .fnil⟩
theorem ti44_ok : TyOk Tryd.prog 44 ti44 := ⟨Tryd.underlying44, ⟨Tryd.t44, _, info_of Tryd.type44, rfl, rfl, rfl, fun _ => rfl, rfl⟩⟩
def ti45 : TI := ⟨Go.TypeDesc.func #[3, 3] #[41] false, 1, 8, .fnil⟩
theorem ti45_ok : TyOk Tryd.prog 45 ti45 := ⟨Tryd.underlying45, ⟨Tryd.t45, _, info_of Tryd.type45, rfl, rfl, rfl, fun _ => rfl, rfl⟩⟩
def ti46 : TI := ⟨Go.TypeDesc.func #[26, 3, 3] #[41, 29] false, 1, 8, .fnil⟩
theorem ti46_ok : TyOk Tryd.prog 46 ti46 := ⟨Tryd.underlying46, ⟨Tryd.t46, _, info_of Tryd.type46, rfl, rfl, rfl, fun _ => rfl, rfl⟩⟩
def ti47 : TI := ⟨Go.TypeDesc.slice 112, 1, 24, .snil⟩
theorem ti47_ok : TyOk Tryd.prog 47 ti47 := ⟨Tryd.underlying47, ⟨Tryd.t47, _, info_of Tryd.type47, rfl, rfl, rfl, fun _ => rfl, rfl⟩⟩
def ti48 : TI := ⟨Go.TypeDesc.func #[3] #[3] false, 1, 8, .fnil⟩
theorem ti48_ok : TyOk Tryd.prog 48 ti48 := ⟨Tryd.underlying48, ⟨Tryd.t48, _, info_of Tryd.type48, rfl, rfl, rfl, fun _ => rfl, rfl⟩⟩
def ti49 : TI := ⟨Go.TypeDesc.func #[47] #[48] false, 1, 8, .fnil⟩
theorem ti49_ok : TyOk Tryd.prog 49 ti49 := ⟨Tryd.underlying49, ⟨Tryd.t49, _, info_of Tryd.type49, rfl, rfl, rfl, fun _ => rfl, rfl⟩⟩
def ti50 : TI := ⟨Go.TypeDesc.slice 3, 1, 24, .snil⟩
theorem ti50_ok : TyOk Tryd.prog 50 ti50 := ⟨Tryd.underlying50, ⟨Tryd.t50, _, info_of Tryd.type50, rfl, rfl, rfl, fun _ => rfl, rfl⟩⟩
def ti52 : TI := ⟨Go.TypeDesc.func #[48] #[26, 50, 50] false, 1, 8, .fnil⟩
theorem ti52_ok : TyOk Tryd.prog 52 ti52 := ⟨Tryd.underlying52, ⟨Tryd.t52, _, info_of Tryd.type52, rfl, rfl, rfl, fun _ => rfl, rfl⟩⟩
def ti53 : TI := ⟨Go.TypeDesc.struct #[{ name := "Minute", type := 3, offset := 0, embedded := false, tag := "", pkgPath := "", byteOffset := 0 }, { name := "Height", type := 41, offset := 1, embedded := false, tag := "", pkgPath := "", byteOffset := 8 }], 3, 24, .agg [.int .i64 0, .int .i64 0, .int .i64 0]⟩
theorem ti53_ok : TyOk Tryd.prog 53 ti53 := ⟨Tryd.underlying53, ⟨Tryd.t53, _, info_of Tryd.type53, rfl, rfl, rfl, fun _ => rfl, rfl⟩⟩
def ti54 : TI := ⟨Go.TypeDesc.struct #[{ name := "Minute", type := 3, offset := 0, embedded := false, tag := "", pkgPath := "", byteOffset := 0 }, { name := "Height", type := 41, offset := 1, embedded := false, tag := "", pkgPath := "", byteOffset := 8 }], 3, 24, .agg [.int .i64 0, .int .i64 0, .int .i64 0]⟩
theorem ti54_ok : TyOk Tryd.prog 54 ti54 := ⟨Tryd.underlying54, ⟨Tryd.t54, _, info_of Tryd.type54, rfl, rfl, rfl, fun _ => rfl, rfl⟩⟩
def ti55 : TI := ⟨Go.TypeDesc.func #[26, 50, 3] #[3] false, 1, 8, .fnil⟩
theorem ti55_ok : TyOk Tryd.prog 55 ti55 := ⟨Tryd.underlying55, ⟨Tryd.t55, _, info_of Tryd.type55, rfl, rfl, rfl, fun _ => rfl, rfl⟩⟩
def ti56 : TI := ⟨Go.TypeDesc.func #[3, 41] #[4] false, 1, 8, .fnil⟩
theorem ti56_ok : TyOk Tryd.prog 56 ti56 := ⟨Tryd.underlying56, ⟨Tryd.t56, _, info_of Tryd.type56, rfl, rfl, rfl, fun _ => rfl, rfl⟩⟩
def ti58 : TI := ⟨Go.TypeDesc.func #[26, 3, 3, 3] #[3, 3, 29] false, 1, 8, .fnil⟩
theorem ti58_ok : TyOk Tryd.prog 58 ti58 := ⟨Tryd.underlying58, ⟨Tryd.t58, _, info_of Tryd.type58, rfl, rfl, rfl, fun _ => rfl, rfl⟩⟩
def ti59 : TI := ⟨Go.TypeDesc.func #[47] #[4] false, 1, 8, .fnil⟩
theorem ti59_ok : TyOk Tryd.prog 59 ti59 := ⟨Tryd.underlying59, ⟨Tryd.t59, _, info_of Tryd.type59, rfl, rfl, rfl, fun _ => rfl, rfl⟩⟩
def ti60 : TI := ⟨Go.TypeDesc.func #[26, 62] #[26] false, 1, 8, .fnil⟩
theorem ti60_ok : TyOk Tryd.prog 60 ti60 := ⟨Tryd.underlying60, ⟨Tryd.t60, _, info_of Tryd.type60, rfl, rfl, rfl, fun _ => rfl, rfl⟩⟩
def ti61 : TI := ⟨Go.TypeDesc.struct #[{ name := "Place", type := 3, offset := 0, embedded := false, tag := "", pkgPath := "", byteOffset := 0 }, { name := "Minute", type := 3, offset := 1, embedded := false, tag := "", pkgPath := "", byteOffset := 8 }, { name := "Depth", type := 41, offset := 2, embedded := false, tag := "", pkgPath := "", byteOffset := 16 }], 4, 32, .agg [.int .i64 0, .int .i64 0, .int .i64 0, .int .i64 0]⟩
theorem ti61_ok : TyOk Tryd.prog 61 ti61 := ⟨Tryd.underlying61, ⟨Tryd.t61, _, info_of Tryd.type61, rfl, rfl, rfl, fun _ => rfl, rfl⟩⟩
def ti62 : TI := ⟨Go.TypeDesc.struct #[{ name := "Place", type := 3, offset := 0, embedded := false, tag := "", pkgPath := "", byteOffset := 0 }, { name := "Minute", type := 3, offset := 1, embedded := false, tag := "", pkgPath := "", byteOffset := 8 }, { name := "Depth", type := 41, offset := 2, embedded := false, tag := "", pkgPath := "", byteOffset := 16 }], 4, 32, .agg [.int .i64 0, .int .i64 0, .int .i64 0, .int .i64 0]⟩
theorem ti62_ok : TyOk Tryd.prog 62 ti62 := ⟨Tryd.underlying62, ⟨Tryd.t62, _, info_of Tryd.type62, rfl, rfl, rfl, fun _ => rfl, rfl⟩⟩
def ti63 : TI := ⟨Go.TypeDesc.func #[3, 3, 3, 3] #[62] false, 1, 8, .fnil⟩
theorem ti63_ok : TyOk Tryd.prog 63 ti63 := ⟨Tryd.underlying63, ⟨Tryd.t63, _, info_of Tryd.type63, rfl, rfl, rfl, fun _ => rfl, rfl⟩⟩
def ti64 : TI := ⟨Go.TypeDesc.func #[26, 5, 5, 5, 5] #[4] false, 1, 8, .fnil⟩
theorem ti64_ok : TyOk Tryd.prog 64 ti64 := ⟨Tryd.underlying64, ⟨Tryd.t64, _, info_of Tryd.type64, rfl, rfl, rfl, fun _ => rfl, rfl⟩⟩
def ti65 : TI := ⟨Go.TypeDesc.func #[26, 5, 5, 5, 5, 4] #[4] false, 1, 8, .fnil⟩
theorem ti65_ok : TyOk Tryd.prog 65 ti65 := ⟨Tryd.underlying65, ⟨Tryd.t65, _, info_of Tryd.type65, rfl, rfl, rfl, fun _ => rfl, rfl⟩⟩
def ti66 : TI := ⟨Go.TypeDesc.func #[26, 5, 5] #[4] false, 1, 8, .fnil⟩
theorem ti66_ok : TyOk Tryd.prog 66 ti66 := ⟨Tryd.underlying66, ⟨Tryd.t66, _, info_of Tryd.type66, rfl, rfl, rfl, fun _ => rfl, rfl⟩⟩
def ti67 : TI := ⟨Go.TypeDesc.func #[26, 3] #[3, 3, 29] false, 1, 8, .fnil⟩
theorem ti67_ok : TyOk Tryd.prog 67 ti67 := ⟨Tryd.underlying67, ⟨Tryd.t67, _, info_of Tryd.type67, rfl, rfl, rfl, fun _ => rfl, rfl⟩⟩
def ti68 : TI := ⟨Go.TypeDesc.func #[3] #[4] false, 1, 8, .fnil⟩
theorem ti68_ok : TyOk Tryd.prog 68 ti68 := ⟨Tryd.underlying68, ⟨Tryd.t68, _, info_of Tryd.type68, rfl, rfl, rfl, fun _ => rfl, rfl⟩⟩
def ti69 : TI := ⟨Go.TypeDesc.func #[26, 5] #[4] false, 1, 8, .fnil⟩
theorem ti69_ok : TyOk Tryd.prog 69 ti69 := ⟨Tryd.underlying69, ⟨Tryd.t69, _, info_of Tryd.type69, rfl, rfl, rfl, fun _ => rfl, rfl⟩⟩
def ti70 : TI := ⟨Go.TypeDesc.pointer 41, 1, 8, .pnil⟩
theorem ti70_ok : TyOk Tryd.prog 70 ti70 := ⟨Tryd.underlying70, ⟨Tryd.t70, _, info_of Tryd.type70, rfl, rfl, rfl, fun _ => rfl, rfl⟩⟩
def ti71 : TI := ⟨Go.TypeDesc.func #[41, 41] #[4] false, 1, 8, .fnil⟩
theorem ti71_ok : TyOk Tryd.prog 71 ti71 := ⟨Tryd.underlying71, ⟨Tryd.t71, _, info_of Tryd.type71, rfl, rfl, rfl, fun _ => rfl, rfl⟩⟩
def ti72 : TI := ⟨Go.TypeDesc.slice 26, 1, 24, .snil⟩
theorem ti72_ok : TyOk Tryd.prog 72 ti72 := ⟨Tryd.underlying72, ⟨Tryd.t72, _, info_of Tryd.type72, rfl, rfl, rfl, fun _ => rfl, rfl⟩⟩
def ti73 : TI := ⟨Go.TypeDesc.func #[26, 62, 5, 5, 5] #[4] false, 1, 8, .fnil⟩
theorem ti73_ok : TyOk Tryd.prog 73 ti73 := ⟨Tryd.underlying73, ⟨Tryd.t73, _, info_of Tryd.type73, rfl, rfl, rfl, fun _ => rfl, rfl⟩⟩
def ti74 : TI := ⟨Go.TypeDesc.func #[20, 75] #[] false, 1, 8, .fnil⟩
theorem ti74_ok : TyOk Tryd.prog 74 ti74 := ⟨Tryd.underlying74, ⟨Tryd.t74, _, info_of Tryd.type74, rfl, rfl, rfl, fun _ => rfl, rfl⟩⟩
def ti75 : TI := ⟨Go.TypeDesc.pointer 29, 1, 8, .pnil⟩
theorem ti75_ok : TyOk Tryd.prog 75 ti75 := ⟨Tryd.underlying75, ⟨Tryd.t75, _, info_of Tryd.type75, rfl, rfl, rfl, fun _ => rfl, rfl⟩⟩
def ti76 : TI := ⟨Go.TypeDesc.pointer 83, 1, 8, .pnil⟩
theorem ti76_ok : TyOk Tryd.prog 76 ti76 := ⟨Tryd.underlying76, ⟨Tryd.t76, _, info_of Tryd.type76, rfl, rfl, rfl, fun _ => rfl, rfl⟩⟩
def ti77 : TI := ⟨Go.TypeDesc.func #[26, 78] #[76] false, 1, 8, .fnil⟩
theorem ti77_ok : TyOk Tryd.prog 77 ti77 := ⟨Tryd.underlying77, ⟨Tryd.t77, _, info_of Tryd.type77, rfl, rfl, rfl, fun _ => rfl, rfl⟩⟩
def ti78 : TI := ⟨Go.TypeDesc.func #[76] #[4] false, 1, 8, .fnil⟩
theorem ti78_ok : TyOk Tryd.prog 78 ti78 := ⟨Tryd.underlying78, ⟨Tryd.t78, _, info_of Tryd.type78, rfl, rfl, rfl, fun _ => rfl, rfl⟩⟩
def ti79 : TI := ⟨Go.TypeDesc.slice 108, 1, 24, .snil⟩
theorem ti79_ok : TyOk Tryd.prog 79 ti79 := ⟨Tryd.underlying79, ⟨Tryd.t79, _, info_of Tryd.type79, rfl, rfl, rfl, fun _ => rfl, rfl⟩⟩
def ti80 : TI := ⟨Go.TypeDesc.func #[] #[79] false, 1, 8, .fnil⟩
theorem ti80_ok : TyOk Tryd.prog 80 ti80 := ⟨Tryd.underlying80, ⟨Tryd.t80, _, info_of Tryd.type80, rfl, rfl, rfl, fun _ => rfl, rfl⟩⟩
def ti81 : TI := ⟨Go.TypeDesc.map 144 3, 1, 8, .mnil⟩
theorem ti81_ok : TyOk Tryd.prog 81 ti81 := ⟨Tryd.underlying81, ⟨Tryd.t81, _, info_of Tryd.type81, rfl, rfl, rfl, fun _ => rfl, rfl⟩⟩
def ti82 : TI := ⟨Go.TypeDesc.struct #[{ name := "Tide", type := 26, offset := 0, embedded := true, tag := "", pkgPath := "", byteOffset := 0 }, { name := "known", type := 81, offset := 3, embedded := false, tag := "", pkgPath := "dipworks/tide", byteOffset := 72 }], 4, 80, .agg [.snil, .snil, .snil, .mnil]⟩
theorem ti82_ok : TyOk Tryd.prog 82 ti82 := ⟨Tryd.underlying82, ⟨Tryd.t82, _, info_of Tryd.type82, rfl, rfl, rfl, fun _ => rfl, rfl⟩⟩
def ti83 : TI := ⟨Go.TypeDesc.struct #[{ name := "Tide", type := 26, offset := 0, embedded := true, tag := "", pkgPath := "", byteOffset := 0 }, { name := "known", type := 81, offset := 3, embedded := false, tag := "", pkgPath := "dipworks/tide", byteOffset := 72 }], 4, 80, .agg [.snil, .snil, .snil, .mnil]⟩
theorem ti83_ok : TyOk Tryd.prog 83 ti83 := ⟨Tryd.underlying83, ⟨Tryd.t83, _, info_of Tryd.type83, rfl, rfl, rfl, fun _ => rfl, rfl⟩⟩
def ti84 : TI := ⟨Go.TypeDesc.func #[] #[3] false, 1, 8, .fnil⟩
theorem ti84_ok : TyOk Tryd.prog 84 ti84 := ⟨Tryd.underlying84, ⟨Tryd.t84, _, info_of Tryd.type84, rfl, rfl, rfl, fun _ => rfl, rfl⟩⟩
def ti85 : TI := ⟨Go.TypeDesc.func #[79, 3, 3] #[41] false, 1, 8, .fnil⟩
theorem ti85_ok : TyOk Tryd.prog 85 ti85 := ⟨Tryd.underlying85, ⟨Tryd.t85, _, info_of Tryd.type85, rfl, rfl, rfl, fun _ => rfl, rfl⟩⟩
def ti86 : TI := ⟨Go.TypeDesc.slice 127, 1, 24, .snil⟩
theorem ti86_ok : TyOk Tryd.prog 86 ti86 := ⟨Tryd.underlying86, ⟨Tryd.t86, _, info_of Tryd.type86, rfl, rfl, rfl, fun _ => rfl, rfl⟩⟩
def ti88 : TI := ⟨Go.TypeDesc.func #[26, 4] #[86, 29] false, 1, 8, .fnil⟩
theorem ti88_ok : TyOk Tryd.prog 88 ti88 := ⟨Tryd.underlying88, ⟨Tryd.t88, _, info_of Tryd.type88, rfl, rfl, rfl, fun _ => rfl, rfl⟩⟩
def ti89 : TI := ⟨Go.TypeDesc.func #[26, 86, 3, 3] #[41] false, 1, 8, .fnil⟩
theorem ti89_ok : TyOk Tryd.prog 89 ti89 := ⟨Tryd.underlying89, ⟨Tryd.t89, _, info_of Tryd.type89, rfl, rfl, rfl, fun _ => rfl, rfl⟩⟩
def ti90 : TI := ⟨Go.TypeDesc.int Go.IntKind.u64, 1, 8, .int .u64 0⟩
theorem ti90_ok : TyOk Tryd.prog 90 ti90 := ⟨Tryd.underlying90, ⟨Tryd.t90, _, info_of Tryd.type90, rfl, rfl, rfl, fun _ => rfl, rfl⟩⟩
def ti91 : TI := ⟨Go.TypeDesc.func #[24, 90] #[24] false, 1, 8, .fnil⟩
theorem ti91_ok : TyOk Tryd.prog 91 ti91 := ⟨Tryd.underlying91, ⟨Tryd.t91, _, info_of Tryd.type91, rfl, rfl, rfl, fun _ => rfl, rfl⟩⟩
def ti92 : TI := ⟨Go.TypeDesc.func #[] #[90] false, 1, 8, .fnil⟩
theorem ti92_ok : TyOk Tryd.prog 92 ti92 := ⟨Tryd.underlying92, ⟨Tryd.t92, _, info_of Tryd.type92, rfl, rfl, rfl, fun _ => rfl, rfl⟩⟩
def ti93 : TI := ⟨Go.TypeDesc.func #[130] #[] false, 1, 8, .fnil⟩
theorem ti93_ok : TyOk Tryd.prog 93 ti93 := ⟨Tryd.underlying93, ⟨Tryd.t93, _, info_of Tryd.type93, rfl, rfl, rfl, fun _ => rfl, rfl⟩⟩
def ti94 : TI := ⟨Go.TypeDesc.func #[130] #[] false, 1, 8, .fnil⟩
theorem ti94_ok : TyOk Tryd.prog 94 ti94 := ⟨Tryd.underlying94, ⟨Tryd.t94, _, info_of Tryd.type94, rfl, rfl, rfl, fun _ => rfl, rfl⟩⟩
def ti95 : TI := ⟨Go.TypeDesc.func #[90] #[94] false, 1, 8, .fnil⟩
theorem ti95_ok : TyOk Tryd.prog 95 ti95 := ⟨Tryd.underlying95, ⟨Tryd.t95, _, info_of Tryd.type95, rfl, rfl, rfl, fun _ => rfl, rfl⟩⟩
def ti96 : TI := ⟨Go.TypeDesc.func #[90] #[4] false, 1, 8, .fnil⟩
theorem ti96_ok : TyOk Tryd.prog 96 ti96 := ⟨Tryd.underlying96, ⟨Tryd.t96, _, info_of Tryd.type96, rfl, rfl, rfl, fun _ => rfl, rfl⟩⟩
def ti97 : TI := ⟨Go.TypeDesc.func #[4, 29] #[] false, 1, 8, .fnil⟩
theorem ti97_ok : TyOk Tryd.prog 97 ti97 := ⟨Tryd.underlying97, ⟨Tryd.t97, _, info_of Tryd.type97, rfl, rfl, rfl, fun _ => rfl, rfl⟩⟩
def ti98 : TI := ⟨Go.TypeDesc.func #[90] #[3] false, 1, 8, .fnil⟩
theorem ti98_ok : TyOk Tryd.prog 98 ti98 := ⟨Tryd.underlying98, ⟨Tryd.t98, _, info_of Tryd.type98, rfl, rfl, rfl, fun _ => rfl, rfl⟩⟩
def ti99 : TI := ⟨Go.TypeDesc.func #[26] #[3] false, 1, 8, .fnil⟩
theorem ti99_ok : TyOk Tryd.prog 99 ti99 := ⟨Tryd.underlying99, ⟨Tryd.t99, _, info_of Tryd.type99, rfl, rfl, rfl, fun _ => rfl, rfl⟩⟩
def ti100 : TI := ⟨Go.TypeDesc.func #[26] #[86] false, 1, 8, .fnil⟩
theorem ti100_ok : TyOk Tryd.prog 100 ti100 := ⟨Tryd.underlying100, ⟨Tryd.t100, _, info_of Tryd.type100, rfl, rfl, rfl, fun _ => rfl, rfl⟩⟩
def ti101 : TI := ⟨Go.TypeDesc.func #[26, 3] #[86] false, 1, 8, .fnil⟩
theorem ti101_ok : TyOk Tryd.prog 101 ti101 := ⟨Tryd.underlying101, ⟨Tryd.t101, _, info_of Tryd.type101, rfl, rfl, rfl, fun _ => rfl, rfl⟩⟩
def ti102 : TI := ⟨Go.TypeDesc.func #[79, 110] #[41] false, 1, 8, .fnil⟩
theorem ti102_ok : TyOk Tryd.prog 102 ti102 := ⟨Tryd.underlying102, ⟨Tryd.t102, _, info_of Tryd.type102, rfl, rfl, rfl, fun _ => rfl, rfl⟩⟩
def ti103 : TI := ⟨Go.TypeDesc.array 4 3, 4, 32, .agg [.int .i64 0, .int .i64 0, .int .i64 0, .int .i64 0]⟩
theorem ti103_ok : TyOk Tryd.prog 103 ti103 := ⟨Tryd.underlying103, ⟨Tryd.t103, _, info_of Tryd.type103, rfl, rfl, rfl, fun _ => rfl, rfl⟩⟩
def ti104 : TI := ⟨Go.TypeDesc.array 4 3, 4, 32, .agg [.int .i64 0, .int .i64 0, .int .i64 0, .int .i64 0]⟩
theorem ti104_ok : TyOk Tryd.prog 104 ti104 := ⟨Tryd.underlying104, ⟨Tryd.t104, _, info_of Tryd.type104, rfl, rfl, rfl, fun _ => rfl, rfl⟩⟩
def ti105 : TI := ⟨Go.TypeDesc.int Go.IntKind.u64, 1, 8, .int .u64 0⟩
theorem ti105_ok : TyOk Tryd.prog 105 ti105 := ⟨Tryd.underlying105, ⟨Tryd.t105, _, info_of Tryd.type105, rfl, rfl, rfl, fun _ => rfl, rfl⟩⟩
def ti106 : TI := ⟨Go.TypeDesc.array 4 105, 4, 32, .agg [.int .u64 0, .int .u64 0, .int .u64 0, .int .u64 0]⟩
theorem ti106_ok : TyOk Tryd.prog 106 ti106 := ⟨Tryd.underlying106, ⟨Tryd.t106, _, info_of Tryd.type106, rfl, rfl, rfl, fun _ => rfl, rfl⟩⟩
def ti107 : TI := ⟨Go.TypeDesc.struct #[{ name := "heights", type := 104, offset := 0, embedded := true, tag := "", pkgPath := "dipworks/tide", byteOffset := 0 }, { name := "sand", type := 106, offset := 4, embedded := false, tag := "", pkgPath := "dipworks/tide", byteOffset := 32 }], 8, 64, .agg [.int .i64 0, .int .i64 0, .int .i64 0, .int .i64 0, .int .u64 0, .int .u64 0, .int .u64 0, .int .u64 0]⟩
theorem ti107_ok : TyOk Tryd.prog 107 ti107 := ⟨Tryd.underlying107, ⟨Tryd.t107, _, info_of Tryd.type107, rfl, rfl, rfl, fun _ => rfl, rfl⟩⟩
def ti108 : TI := ⟨Go.TypeDesc.struct #[{ name := "heights", type := 104, offset := 0, embedded := true, tag := "", pkgPath := "dipworks/tide", byteOffset := 0 }, { name := "sand", type := 106, offset := 4, embedded := false, tag := "", pkgPath := "dipworks/tide", byteOffset := 32 }], 8, 64, .agg [.int .i64 0, .int .i64 0, .int .i64 0, .int .i64 0, .int .u64 0, .int .u64 0, .int .u64 0, .int .u64 0]⟩
theorem ti108_ok : TyOk Tryd.prog 108 ti108 := ⟨Tryd.underlying108, ⟨Tryd.t108, _, info_of Tryd.type108, rfl, rfl, rfl, fun _ => rfl, rfl⟩⟩
def ti109 : TI := ⟨Go.TypeDesc.func #[104, 3] #[3] false, 1, 8, .fnil⟩
theorem ti109_ok : TyOk Tryd.prog 109 ti109 := ⟨Tryd.underlying109, ⟨Tryd.t109, _, info_of Tryd.type109, rfl, rfl, rfl, fun _ => rfl, rfl⟩⟩
def ti110 : TI := ⟨Go.TypeDesc.func #[108] #[3, 3] false, 1, 8, .fnil⟩
theorem ti110_ok : TyOk Tryd.prog 110 ti110 := ⟨Tryd.underlying110, ⟨Tryd.t110, _, info_of Tryd.type110, rfl, rfl, rfl, fun _ => rfl, rfl⟩⟩
def ti111 : TI := ⟨Go.TypeDesc.func #[3, 3, 3] #[54] false, 1, 8, .fnil⟩
theorem ti111_ok : TyOk Tryd.prog 111 ti111 := ⟨Tryd.underlying111, ⟨Tryd.t111, _, info_of Tryd.type111, rfl, rfl, rfl, fun _ => rfl, rfl⟩⟩
def ti112 : TI := ⟨Go.TypeDesc.int Go.IntKind.u16, 1, 2, .int .u16 0⟩
theorem ti112_ok : TyOk Tryd.prog 112 ti112 := ⟨Tryd.underlying112, ⟨Tryd.t112, _, info_of Tryd.type112, rfl, rfl, rfl, fun _ => rfl, rfl⟩⟩
def ti113 : TI := ⟨Go.TypeDesc.func #[3] #[41] false, 1, 8, .fnil⟩
theorem ti113_ok : TyOk Tryd.prog 113 ti113 := ⟨Tryd.underlying113, ⟨Tryd.t113, _, info_of Tryd.type113, rfl, rfl, rfl, fun _ => rfl, rfl⟩⟩
def ti115 : TI := ⟨Go.TypeDesc.func #[105] #[3, 3] false, 1, 8, .fnil⟩
theorem ti115_ok : TyOk Tryd.prog 115 ti115 := ⟨Tryd.underlying115, ⟨Tryd.t115, _, info_of Tryd.type115, rfl, rfl, rfl, fun _ => rfl, rfl⟩⟩
def ti116 : TI := ⟨Go.TypeDesc.map 3 3, 1, 8, .mnil⟩
theorem ti116_ok : TyOk Tryd.prog 116 ti116 := ⟨Tryd.underlying116, ⟨Tryd.t116, _, info_of Tryd.type116, rfl, rfl, rfl, fun _ => rfl, rfl⟩⟩
def ti117 : TI := ⟨Go.TypeDesc.func #[79, 3, 3] #[116] false, 1, 8, .fnil⟩
theorem ti117_ok : TyOk Tryd.prog 117 ti117 := ⟨Tryd.underlying117, ⟨Tryd.t117, _, info_of Tryd.type117, rfl, rfl, rfl, fun _ => rfl, rfl⟩⟩
def ti118 : TI := ⟨Go.TypeDesc.func #[3, 3, 3] #[4] false, 1, 8, .fnil⟩
theorem ti118_ok : TyOk Tryd.prog 118 ti118 := ⟨Tryd.underlying118, ⟨Tryd.t118, _, info_of Tryd.type118, rfl, rfl, rfl, fun _ => rfl, rfl⟩⟩
def ti119 : TI := ⟨Go.TypeDesc.func #[41] #[4] false, 1, 8, .fnil⟩
theorem ti119_ok : TyOk Tryd.prog 119 ti119 := ⟨Tryd.underlying119, ⟨Tryd.t119, _, info_of Tryd.type119, rfl, rfl, rfl, fun _ => rfl, rfl⟩⟩
def ti120 : TI := ⟨Go.TypeDesc.struct #[{ name := "e", type := 29, offset := 0, embedded := false, tag := "", pkgPath := "dipworks/tide", byteOffset := 0 }], 1, 8, .agg [.int .i64 0]⟩
theorem ti120_ok : TyOk Tryd.prog 120 ti120 := ⟨Tryd.underlying120, ⟨Tryd.t120, _, info_of Tryd.type120, rfl, rfl, rfl, fun _ => rfl, rfl⟩⟩
def ti121 : TI := ⟨Go.TypeDesc.struct #[{ name := "e", type := 29, offset := 0, embedded := false, tag := "", pkgPath := "dipworks/tide", byteOffset := 0 }], 1, 8, .agg [.int .i64 0]⟩
theorem ti121_ok : TyOk Tryd.prog 121 ti121 := ⟨Tryd.underlying121, ⟨Tryd.t121, _, info_of Tryd.type121, rfl, rfl, rfl, fun _ => rfl, rfl⟩⟩
def ti123 : TI := ⟨Go.TypeDesc.func #[94] #[79] false, 1, 8, .fnil⟩
theorem ti123_ok : TyOk Tryd.prog 123 ti123 := ⟨Tryd.underlying123, ⟨Tryd.t123, _, info_of Tryd.type123, rfl, rfl, rfl, fun _ => rfl, rfl⟩⟩
def ti124 : TI := ⟨Go.TypeDesc.func #[41, 3] #[41] false, 1, 8, .fnil⟩
theorem ti124_ok : TyOk Tryd.prog 124 ti124 := ⟨Tryd.underlying124, ⟨Tryd.t124, _, info_of Tryd.type124, rfl, rfl, rfl, fun _ => rfl, rfl⟩⟩
def ti125 : TI := ⟨Go.TypeDesc.func #[26, 127, 3, 3] #[3] false, 1, 8, .fnil⟩
theorem ti125_ok : TyOk Tryd.prog 125 ti125 := ⟨Tryd.underlying125, ⟨Tryd.t125, _, info_of Tryd.type125, rfl, rfl, rfl, fun _ => rfl, rfl⟩⟩
def ti126 : TI := ⟨Go.TypeDesc.struct #[{ name := "Heights", type := 50, offset := 0, embedded := false, tag := "", pkgPath := "", byteOffset := 0 }, { name := "Sand", type := 50, offset := 1, embedded := false, tag := "", pkgPath := "", byteOffset := 24 }], 2, 48, .agg [.snil, .snil]⟩
theorem ti126_ok : TyOk Tryd.prog 126 ti126 := ⟨Tryd.underlying126, ⟨Tryd.t126, _, info_of Tryd.type126, rfl, rfl, rfl, fun _ => rfl, rfl⟩⟩
def ti127 : TI := ⟨Go.TypeDesc.struct #[{ name := "Heights", type := 50, offset := 0, embedded := false, tag := "", pkgPath := "", byteOffset := 0 }, { name := "Sand", type := 50, offset := 1, embedded := false, tag := "", pkgPath := "", byteOffset := 24 }], 2, 48, .agg [.snil, .snil]⟩
theorem ti127_ok : TyOk Tryd.prog 127 ti127 := ⟨Tryd.underlying127, ⟨Tryd.t127, _, info_of Tryd.type127, rfl, rfl, rfl, fun _ => rfl, rfl⟩⟩
def ti128 : TI := ⟨Go.TypeDesc.func #[24, 129] #[24] false, 1, 8, .fnil⟩
theorem ti128_ok : TyOk Tryd.prog 128 ti128 := ⟨Tryd.underlying128, ⟨Tryd.t128, _, info_of Tryd.type128, rfl, rfl, rfl, fun _ => rfl, rfl⟩⟩
def ti129 : TI := ⟨Go.TypeDesc.func #[62] #[4] false, 1, 8, .fnil⟩
theorem ti129_ok : TyOk Tryd.prog 129 ti129 := ⟨Tryd.underlying129, ⟨Tryd.t129, _, info_of Tryd.type129, rfl, rfl, rfl, fun _ => rfl, rfl⟩⟩
def ti130 : TI := ⟨Go.TypeDesc.func #[108] #[4] false, 1, 8, .fnil⟩
theorem ti130_ok : TyOk Tryd.prog 130 ti130 := ⟨Tryd.underlying130, ⟨Tryd.t130, _, info_of Tryd.type130, rfl, rfl, rfl, fun _ => rfl, rfl⟩⟩
def ti131 : TI := ⟨Go.TypeDesc.func #[104, 3] #[4] false, 1, 8, .fnil⟩
theorem ti131_ok : TyOk Tryd.prog 131 ti131 := ⟨Tryd.underlying131, ⟨Tryd.t131, _, info_of Tryd.type131, rfl, rfl, rfl, fun _ => rfl, rfl⟩⟩
def ti132 : TI := ⟨Go.TypeDesc.func #[3, 3] #[104] false, 1, 8, .fnil⟩
theorem ti132_ok : TyOk Tryd.prog 132 ti132 := ⟨Tryd.underlying132, ⟨Tryd.t132, _, info_of Tryd.type132, rfl, rfl, rfl, fun _ => rfl, rfl⟩⟩
def ti133 : TI := ⟨Go.TypeDesc.func #[104, 3, 90] #[105] false, 1, 8, .fnil⟩
theorem ti133_ok : TyOk Tryd.prog 133 ti133 := ⟨Tryd.underlying133, ⟨Tryd.t133, _, info_of Tryd.type133, rfl, rfl, rfl, fun _ => rfl, rfl⟩⟩
def ti134 : TI := ⟨Go.TypeDesc.func #[135] #[3] false, 1, 8, .fnil⟩
theorem ti134_ok : TyOk Tryd.prog 134 ti134 := ⟨Tryd.underlying134, ⟨Tryd.t134, _, info_of Tryd.type134, rfl, rfl, rfl, fun _ => rfl, rfl⟩⟩
def ti135 : TI := ⟨Go.TypeDesc.int Go.IntKind.u32, 1, 4, .int .u32 0⟩
theorem ti135_ok : TyOk Tryd.prog 135 ti135 := ⟨Tryd.underlying135, ⟨Tryd.t135, _, info_of Tryd.type135, rfl, rfl, rfl, fun _ => rfl, rfl⟩⟩
def ti136 : TI := ⟨Go.TypeDesc.func #[105] #[3] false, 1, 8, .fnil⟩
theorem ti136_ok : TyOk Tryd.prog 136 ti136 := ⟨Tryd.underlying136, ⟨Tryd.t136, _, info_of Tryd.type136, rfl, rfl, rfl, fun _ => rfl, rfl⟩⟩
def ti137 : TI := ⟨Go.TypeDesc.slice 50, 1, 24, .snil⟩
theorem ti137_ok : TyOk Tryd.prog 137 ti137 := ⟨Tryd.underlying137, ⟨Tryd.t137, _, info_of Tryd.type137, rfl, rfl, rfl, fun _ => rfl, rfl⟩⟩
def ti138 : TI := ⟨Go.TypeDesc.func #[23, 50, 137] #[137] false, 1, 8, .fnil⟩
theorem ti138_ok : TyOk Tryd.prog 138 ti138 := ⟨Tryd.underlying138, ⟨Tryd.t138, _, info_of Tryd.type138, rfl, rfl, rfl, fun _ => rfl, rfl⟩⟩
def ti139 : TI := ⟨Go.TypeDesc.func #[26, 127, 3] #[4] false, 1, 8, .fnil⟩
theorem ti139_ok : TyOk Tryd.prog 139 ti139 := ⟨Tryd.underlying139, ⟨Tryd.t139, _, info_of Tryd.type139, rfl, rfl, rfl, fun _ => rfl, rfl⟩⟩
def ti140 : TI := ⟨Go.TypeDesc.struct #[{ name := "Span", type := 41, offset := 0, embedded := true, tag := "", pkgPath := "", byteOffset := 0 }, { name := "some", type := 4, offset := 2, embedded := false, tag := "", pkgPath := "dipworks/tide", byteOffset := 16 }, { name := "of", type := 110, offset := 3, embedded := false, tag := "", pkgPath := "dipworks/tide", byteOffset := 24 }], 4, 32, .agg [.int .i64 0, .int .i64 0, .bool false, .fnil]⟩
theorem ti140_ok : TyOk Tryd.prog 140 ti140 := ⟨Tryd.underlying140, ⟨Tryd.t140, _, info_of Tryd.type140, rfl, rfl, rfl, fun _ => rfl, rfl⟩⟩
def ti141 : TI := ⟨Go.TypeDesc.struct #[{ name := "Span", type := 41, offset := 0, embedded := true, tag := "", pkgPath := "", byteOffset := 0 }, { name := "some", type := 4, offset := 2, embedded := false, tag := "", pkgPath := "dipworks/tide", byteOffset := 16 }, { name := "of", type := 110, offset := 3, embedded := false, tag := "", pkgPath := "dipworks/tide", byteOffset := 24 }], 4, 32, .agg [.int .i64 0, .int .i64 0, .bool false, .fnil]⟩
theorem ti141_ok : TyOk Tryd.prog 141 ti141 := ⟨Tryd.underlying141, ⟨Tryd.t141, _, info_of Tryd.type141, rfl, rfl, rfl, fun _ => rfl, rfl⟩⟩
def ti142 : TI := ⟨Go.TypeDesc.func #[108] #[] false, 1, 8, .fnil⟩
theorem ti142_ok : TyOk Tryd.prog 142 ti142 := ⟨Tryd.underlying142, ⟨Tryd.t142, _, info_of Tryd.type142, rfl, rfl, rfl, fun _ => rfl, rfl⟩⟩
def ti143 : TI := ⟨Go.TypeDesc.struct #[{ name := "heights", type := 104, offset := 0, embedded := true, tag := "", pkgPath := "dipworks/tide", byteOffset := 0 }, { name := "minute", type := 3, offset := 4, embedded := false, tag := "", pkgPath := "dipworks/tide", byteOffset := 32 }], 5, 40, .agg [.int .i64 0, .int .i64 0, .int .i64 0, .int .i64 0, .int .i64 0]⟩
theorem ti143_ok : TyOk Tryd.prog 143 ti143 := ⟨Tryd.underlying143, ⟨Tryd.t143, _, info_of Tryd.type143, rfl, rfl, rfl, fun _ => rfl, rfl⟩⟩
def ti144 : TI := ⟨Go.TypeDesc.struct #[{ name := "heights", type := 104, offset := 0, embedded := true, tag := "", pkgPath := "dipworks/tide", byteOffset := 0 }, { name := "minute", type := 3, offset := 4, embedded := false, tag := "", pkgPath := "dipworks/tide", byteOffset := 32 }], 5, 40, .agg [.int .i64 0, .int .i64 0, .int .i64 0, .int .i64 0, .int .i64 0]⟩
theorem ti144_ok : TyOk Tryd.prog 144 ti144 := ⟨Tryd.underlying144, ⟨Tryd.t144, _, info_of Tryd.type144, rfl, rfl, rfl, fun _ => rfl, rfl⟩⟩
def ti146 : TI := ⟨Go.TypeDesc.func #[22, 147] #[3] false, 1, 8, .fnil⟩
theorem ti146_ok : TyOk Tryd.prog 146 ti146 := ⟨Tryd.underlying146, ⟨Tryd.t146, _, info_of Tryd.type146, rfl, rfl, rfl, fun _ => rfl, rfl⟩⟩
def ti147 : TI := ⟨Go.TypeDesc.func #[54] #[4] false, 1, 8, .fnil⟩
theorem ti147_ok : TyOk Tryd.prog 147 ti147 := ⟨Tryd.underlying147, ⟨Tryd.t147, _, info_of Tryd.type147, rfl, rfl, rfl, fun _ => rfl, rfl⟩⟩
def ti148 : TI := ⟨Go.TypeDesc.array 7 3, 7, 56, .agg [.int .i64 0, .int .i64 0, .int .i64 0, .int .i64 0, .int .i64 0, .int .i64 0, .int .i64 0]⟩
theorem ti148_ok : TyOk Tryd.prog 148 ti148 := ⟨Tryd.underlying148, ⟨Tryd.t148, _, info_of Tryd.type148, rfl, rfl, rfl, fun _ => rfl, rfl⟩⟩
def ti149 : TI := ⟨Go.TypeDesc.slice 105, 1, 24, .snil⟩
theorem ti149_ok : TyOk Tryd.prog 149 ti149 := ⟨Tryd.underlying149, ⟨Tryd.t149, _, info_of Tryd.type149, rfl, rfl, rfl, fun _ => rfl, rfl⟩⟩
def ti150 : TI := ⟨Go.TypeDesc.func #[50] #[3] true, 1, 8, .fnil⟩
theorem ti150_ok : TyOk Tryd.prog 150 ti150 := ⟨Tryd.underlying150, ⟨Tryd.t150, _, info_of Tryd.type150, rfl, rfl, rfl, fun _ => rfl, rfl⟩⟩
def ti151 : TI := ⟨Go.TypeDesc.func #[108, 3] #[3] false, 1, 8, .fnil⟩
theorem ti151_ok : TyOk Tryd.prog 151 ti151 := ⟨Tryd.underlying151, ⟨Tryd.t151, _, info_of Tryd.type151, rfl, rfl, rfl, fun _ => rfl, rfl⟩⟩
def ti152 : TI := ⟨Go.TypeDesc.func #[79, 94] #[79] false, 1, 8, .fnil⟩
theorem ti152_ok : TyOk Tryd.prog 152 ti152 := ⟨Tryd.underlying152, ⟨Tryd.t152, _, info_of Tryd.type152, rfl, rfl, rfl, fun _ => rfl, rfl⟩⟩
def ti153 : TI := ⟨Go.TypeDesc.func #[24, 129] #[3] false, 1, 8, .fnil⟩
theorem ti153_ok : TyOk Tryd.prog 153 ti153 := ⟨Tryd.underlying153, ⟨Tryd.t153, _, info_of Tryd.type153, rfl, rfl, rfl, fun _ => rfl, rfl⟩⟩
def ti154 : TI := ⟨Go.TypeDesc.struct #[], 0, 0, .agg []⟩
theorem ti154_ok : TyOk Tryd.prog 154 ti154 := ⟨Tryd.underlying154, ⟨Tryd.t154, _, info_of Tryd.type154, rfl, rfl, rfl, fun _ => rfl, rfl⟩⟩
def ti155 : TI := ⟨Go.TypeDesc.struct #[], 0, 0, .agg []⟩
theorem ti155_ok : TyOk Tryd.prog 155 ti155 := ⟨Tryd.underlying155, ⟨Tryd.t155, _, info_of Tryd.type155, rfl, rfl, rfl, fun _ => rfl, rfl⟩⟩
def ti156 : TI := ⟨Go.TypeDesc.interface #[("dipworks/tide.fits", 160)], 1, 16, .inil⟩
theorem ti156_ok : TyOk Tryd.prog 156 ti156 := ⟨Tryd.underlying156, ⟨Tryd.t156, _, info_of Tryd.type156, rfl, rfl, rfl, fun _ => rfl, rfl⟩⟩
def ti157 : TI := ⟨Go.TypeDesc.interface #[("dipworks/tide.fits", 160)], 1, 16, .inil⟩
theorem ti157_ok : TyOk Tryd.prog 157 ti157 := ⟨Tryd.underlying157, ⟨Tryd.t157, _, info_of Tryd.type157, rfl, rfl, rfl, fun _ => rfl, rfl⟩⟩
def ti158 : TI := ⟨Go.TypeDesc.struct #[{ name := "nothing", type := 155, offset := 0, embedded := true, tag := "", pkgPath := "dipworks/tide", byteOffset := 0 }, { name := "depth", type := 41, offset := 0, embedded := false, tag := "", pkgPath := "dipworks/tide", byteOffset := 0 }], 2, 16, .agg [.int .i64 0, .int .i64 0]⟩
theorem ti158_ok : TyOk Tryd.prog 158 ti158 := ⟨Tryd.underlying158, ⟨Tryd.t158, _, info_of Tryd.type158, rfl, rfl, rfl, fun _ => rfl, rfl⟩⟩
def ti159 : TI := ⟨Go.TypeDesc.struct #[{ name := "nothing", type := 155, offset := 0, embedded := true, tag := "", pkgPath := "dipworks/tide", byteOffset := 0 }, { name := "depth", type := 41, offset := 0, embedded := false, tag := "", pkgPath := "dipworks/tide", byteOffset := 0 }], 2, 16, .agg [.int .i64 0, .int .i64 0]⟩
theorem ti159_ok : TyOk Tryd.prog 159 ti159 := ⟨Tryd.underlying159, ⟨Tryd.t159, _, info_of Tryd.type159, rfl, rfl, rfl, fun _ => rfl, rfl⟩⟩
def ti160 : TI := ⟨Go.TypeDesc.func #[3, 3] #[4] false, 1, 8, .fnil⟩
theorem ti160_ok : TyOk Tryd.prog 160 ti160 := ⟨Tryd.underlying160, ⟨Tryd.t160, _, info_of Tryd.type160, rfl, rfl, rfl, fun _ => rfl, rfl⟩⟩
def ti161 : TI := ⟨Go.TypeDesc.pointer 141, 1, 8, .pnil⟩
theorem ti161_ok : TyOk Tryd.prog 161 ti161 := ⟨Tryd.underlying161, ⟨Tryd.t161, _, info_of Tryd.type161, rfl, rfl, rfl, fun _ => rfl, rfl⟩⟩
def ti162 : TI := ⟨Go.TypeDesc.array 64 5, 64, 64, .agg [.int .u8 0, .int .u8 0, .int .u8 0, .int .u8 0, .int .u8 0, .int .u8 0, .int .u8 0, .int .u8 0, .int .u8 0, .int .u8 0, .int .u8 0, .int .u8 0, .int .u8 0, .int .u8 0, .int .u8 0, .int .u8 0, .int .u8 0, .int .u8 0, .int .u8 0, .int .u8 0, .int .u8 0, .int .u8 0, .int .u8 0, .int .u8 0, .int .u8 0, .int .u8 0, .int .u8 0, .int .u8 0, .int .u8 0, .int .u8 0, .int .u8 0, .int .u8 0, .int .u8 0, .int .u8 0, .int .u8 0, .int .u8 0, .int .u8 0, .int .u8 0, .int .u8 0, .int .u8 0, .int .u8 0, .int .u8 0, .int .u8 0, .int .u8 0, .int .u8 0, .int .u8 0, .int .u8 0, .int .u8 0, .int .u8 0, .int .u8 0, .int .u8 0, .int .u8 0, .int .u8 0, .int .u8 0, .int .u8 0, .int .u8 0, .int .u8 0, .int .u8 0, .int .u8 0, .int .u8 0, .int .u8 0, .int .u8 0, .int .u8 0, .int .u8 0]⟩
theorem ti162_ok : TyOk Tryd.prog 162 ti162 := ⟨Tryd.underlying162, ⟨Tryd.t162, _, info_of Tryd.type162, rfl, rfl, rfl, fun _ => rfl, rfl⟩⟩
def ti163 : TI := ⟨Go.TypeDesc.func #[] #[9] false, 1, 8, .fnil⟩
theorem ti163_ok : TyOk Tryd.prog 163 ti163 := ⟨Tryd.underlying163, ⟨Tryd.t163, _, info_of Tryd.type163, rfl, rfl, rfl, fun _ => rfl, rfl⟩⟩
def ti164 : TI := ⟨Go.TypeDesc.struct #[{ name := "_interface", type := 17, offset := 0, embedded := false, tag := "", pkgPath := "runtime", byteOffset := 0 }, { name := "concrete", type := 17, offset := 1, embedded := false, tag := "", pkgPath := "runtime", byteOffset := 8 }, { name := "asserted", type := 17, offset := 2, embedded := false, tag := "", pkgPath := "runtime", byteOffset := 16 }, { name := "missingMethod", type := 9, offset := 3, embedded := false, tag := "", pkgPath := "runtime", byteOffset := 24 }], 4, 40, .agg [.pnil, .pnil, .pnil, .str ({ data := #[] })]⟩
theorem ti164_ok : TyOk Tryd.prog 164 ti164 := ⟨Tryd.underlying164, ⟨Tryd.t164, _, info_of Tryd.type164, rfl, rfl, rfl, fun _ => rfl, rfl⟩⟩
def ti165 : TI := ⟨Go.TypeDesc.struct #[{ name := "_interface", type := 17, offset := 0, embedded := false, tag := "", pkgPath := "runtime", byteOffset := 0 }, { name := "concrete", type := 17, offset := 1, embedded := false, tag := "", pkgPath := "runtime", byteOffset := 8 }, { name := "asserted", type := 17, offset := 2, embedded := false, tag := "", pkgPath := "runtime", byteOffset := 16 }, { name := "missingMethod", type := 9, offset := 3, embedded := false, tag := "", pkgPath := "runtime", byteOffset := 24 }], 4, 40, .agg [.pnil, .pnil, .pnil, .str ({ data := #[] })]⟩
theorem ti165_ok : TyOk Tryd.prog 165 ti165 := ⟨Tryd.underlying165, ⟨Tryd.t165, _, info_of Tryd.type165, rfl, rfl, rfl, fun _ => rfl, rfl⟩⟩
def ti166 : TI := ⟨Go.TypeDesc.array 0 16, 0, 0, .agg []⟩
theorem ti166_ok : TyOk Tryd.prog 166 ti166 := ⟨Tryd.underlying166, ⟨Tryd.t166, _, info_of Tryd.type166, rfl, rfl, rfl, fun _ => rfl, rfl⟩⟩
def ti167 : TI := ⟨Go.TypeDesc.struct #[{ name := "_", type := 166, offset := 0, embedded := false, tag := "", pkgPath := "runtime", byteOffset := 0 }], 0, 0, .agg []⟩
theorem ti167_ok : TyOk Tryd.prog 167 ti167 := ⟨Tryd.underlying167, ⟨Tryd.t167, _, info_of Tryd.type167, rfl, rfl, rfl, fun _ => rfl, rfl⟩⟩
def ti168 : TI := ⟨Go.TypeDesc.struct #[{ name := "_", type := 166, offset := 0, embedded := false, tag := "", pkgPath := "runtime", byteOffset := 0 }], 0, 0, .agg []⟩
theorem ti168_ok : TyOk Tryd.prog 168 ti168 := ⟨Tryd.underlying168, ⟨Tryd.t168, _, info_of Tryd.type168, rfl, rfl, rfl, fun _ => rfl, rfl⟩⟩
def ti169 : TI := ⟨Go.TypeDesc.int Go.IntKind.u8, 1, 1, .int .u8 0⟩
theorem ti169_ok : TyOk Tryd.prog 169 ti169 := ⟨Tryd.underlying169, ⟨Tryd.t169, _, info_of Tryd.type169, rfl, rfl, rfl, fun _ => rfl, rfl⟩⟩
def ti170 : TI := ⟨Go.TypeDesc.int Go.IntKind.u8, 1, 1, .int .u8 0⟩
theorem ti170_ok : TyOk Tryd.prog 170 ti170 := ⟨Tryd.underlying170, ⟨Tryd.t170, _, info_of Tryd.type170, rfl, rfl, rfl, fun _ => rfl, rfl⟩⟩
def ti171 : TI := ⟨Go.TypeDesc.func #[177, 177] #[4] false, 1, 8, .fnil⟩
theorem ti171_ok : TyOk Tryd.prog 171 ti171 := ⟨Tryd.underlying171, ⟨Tryd.t171, _, info_of Tryd.type171, rfl, rfl, rfl, fun _ => rfl, rfl⟩⟩
def ti172 : TI := ⟨Go.TypeDesc.pointer 5, 1, 8, .pnil⟩
theorem ti172_ok : TyOk Tryd.prog 172 ti172 := ⟨Tryd.underlying172, ⟨Tryd.t172, _, info_of Tryd.type172, rfl, rfl, rfl, fun _ => rfl, rfl⟩⟩
def ti173 : TI := ⟨Go.TypeDesc.int Go.IntKind.i32, 1, 4, .int .i32 0⟩
theorem ti173_ok : TyOk Tryd.prog 173 ti173 := ⟨Tryd.underlying173, ⟨Tryd.t173, _, info_of Tryd.type173, rfl, rfl, rfl, fun _ => rfl, rfl⟩⟩
def ti174 : TI := ⟨Go.TypeDesc.int Go.IntKind.i32, 1, 4, .int .i32 0⟩
theorem ti174_ok : TyOk Tryd.prog 174 ti174 := ⟨Tryd.underlying174, ⟨Tryd.t174, _, info_of Tryd.type174, rfl, rfl, rfl, fun _ => rfl, rfl⟩⟩
def ti175 : TI := ⟨Go.TypeDesc.struct #[{ name := "Size_", type := 12, offset := 0, embedded := false, tag := "", pkgPath := "", byteOffset := 0 }, { name := "PtrBytes", type := 12, offset := 1, embedded := false, tag := "", pkgPath := "", byteOffset := 8 }, { name := "Hash", type := 135, offset := 2, embedded := false, tag := "", pkgPath := "", byteOffset := 16 }, { name := "TFlag", type := 169, offset := 3, embedded := false, tag := "", pkgPath := "", byteOffset := 20 }, { name := "Align_", type := 5, offset := 4, embedded := false, tag := "", pkgPath := "", byteOffset := 21 }, { name := "FieldAlign_", type := 5, offset := 5, embedded := false, tag := "", pkgPath := "", byteOffset := 22 }, { name := "Kind_", type := 170, offset := 6, embedded := false, tag := "", pkgPath := "", byteOffset := 23 }, { name := "Equal", type := 171, offset := 7, embedded := false, tag := "", pkgPath := "", byteOffset := 24 }, { name := "GCData", type := 172, offset := 8, embedded := false, tag := "", pkgPath := "", byteOffset := 32 }, { name := "Str", type := 173, offset := 9, embedded := false, tag := "", pkgPath := "", byteOffset := 40 }, { name := "PtrToThis", type := 174, offset := 10, embedded := false, tag := "", pkgPath := "", byteOffset := 44 }], 11, 48, .agg [.int .u64 0, .int .u64 0, .int .u32 0, .int .u8 0, .int .u8 0, .int .u8 0, .int .u8 0, .fnil, .pnil, .int .i32 0, .int .i32 0]⟩
theorem ti175_ok : TyOk Tryd.prog 175 ti175 := ⟨Tryd.underlying175, ⟨Tryd.t175, _, info_of Tryd.type175, rfl, rfl, rfl, fun _ => rfl, rfl⟩⟩
def ti176 : TI := ⟨Go.TypeDesc.struct #[{ name := "Size_", type := 12, offset := 0, embedded := false, tag := "", pkgPath := "", byteOffset := 0 }, { name := "PtrBytes", type := 12, offset := 1, embedded := false, tag := "", pkgPath := "", byteOffset := 8 }, { name := "Hash", type := 135, offset := 2, embedded := false, tag := "", pkgPath := "", byteOffset := 16 }, { name := "TFlag", type := 169, offset := 3, embedded := false, tag := "", pkgPath := "", byteOffset := 20 }, { name := "Align_", type := 5, offset := 4, embedded := false, tag := "", pkgPath := "", byteOffset := 21 }, { name := "FieldAlign_", type := 5, offset := 5, embedded := false, tag := "", pkgPath := "", byteOffset := 22 }, { name := "Kind_", type := 170, offset := 6, embedded := false, tag := "", pkgPath := "", byteOffset := 23 }, { name := "Equal", type := 171, offset := 7, embedded := false, tag := "", pkgPath := "", byteOffset := 24 }, { name := "GCData", type := 172, offset := 8, embedded := false, tag := "", pkgPath := "", byteOffset := 32 }, { name := "Str", type := 173, offset := 9, embedded := false, tag := "", pkgPath := "", byteOffset := 40 }, { name := "PtrToThis", type := 174, offset := 10, embedded := false, tag := "", pkgPath := "", byteOffset := 44 }], 11, 48, .agg [.int .u64 0, .int .u64 0, .int .u32 0, .int .u8 0, .int .u8 0, .int .u8 0, .int .u8 0, .fnil, .pnil, .int .i32 0, .int .i32 0]⟩
theorem ti176_ok : TyOk Tryd.prog 176 ti176 := ⟨Tryd.underlying176, ⟨Tryd.t176, _, info_of Tryd.type176, rfl, rfl, rfl, fun _ => rfl, rfl⟩⟩
def ti177 : TI := ⟨Go.TypeDesc.unsafePointer, 1, 8, .pnil⟩
theorem ti177_ok : TyOk Tryd.prog 177 ti177 := ⟨Tryd.underlying177, ⟨Tryd.t177, _, info_of Tryd.type177, rfl, rfl, rfl, fun _ => rfl, rfl⟩⟩
def tyL : List (Option TI) := [none, some ti1, some ti2, some ti3, some ti4, some ti5, some ti6, some ti7, some ti8, some ti9, some ti10, some ti11, some ti12, some ti13, some ti14, some ti15, some ti16, some ti17, some ti18, some ti19, some ti20, some ti21, some ti22, some ti23, some ti24, some ti25, some ti26, some ti27, some ti28, some ti29, none, some ti31, none, some ti33, some ti34, some ti35, some ti36, some ti37, some ti38, some ti39, some ti40, some ti41, none, some ti43, some ti44, some ti45, some ti46, some ti47, some ti48, some ti49, some ti50, none, some ti52, some ti53, some ti54, some ti55, some ti56, none, some ti58, some ti59, some ti60, some ti61, some ti62, some ti63, some ti64, some ti65, some ti66, some ti67, some ti68, some ti69, some ti70, some ti71, some ti72, some ti73, some ti74, some ti75, some ti76, some ti77, some ti78, some ti79, some ti80, some ti81, some ti82, some ti83, some ti84, some ti85, some ti86, none, some ti88, some ti89, some ti90, some ti91, some ti92, some ti93, some ti94, some ti95, some ti96, some ti97, some ti98, some ti99, some ti100, some ti101, some ti102, some ti103, some ti104, some ti105, some ti106, some ti107, some ti108, some ti109, some ti110, some ti111, some ti112, some ti113, none, some ti115, some ti116, some ti117, some ti118, some ti119, some ti120, some ti121, none, some ti123, some ti124, some ti125, some ti126, some ti127, some ti128, some ti129, some ti130, some ti131, some ti132, some ti133, some ti134, some ti135, some ti136, some ti137, some ti138, some ti139, some ti140, some ti141, some ti142, some ti143, some ti144, none, some ti146, some ti147, some ti148, some ti149, some ti150, some ti151, some ti152, some ti153, some ti154, some ti155, some ti156, some ti157, some ti158, some ti159, some ti160, some ti161, some ti162, some ti163, some ti164, some ti165, some ti166, some ti167, some ti168, some ti169, some ti170, some ti171, some ti172, some ti173, some ti174, some ti175, some ti176, some ti177]
def fnL : List (Option Unit) := [none, none, some (), some (), some (), some (), some (), some (), some (), some (), some (), some (), some (), some (), some (), some (), some (), some (), some (), some (), some (), some (), some (), some (), some (), some (), some (), some (), some (), some (), some (), some (), some (), some (), some (), some (), some (), some (), some (), some (), some (), some (), some (), some (), some (), some (), some (), some (), some (), some (), some (), some (), some (), some (), some (), some (), some (), some (), some (), some (), some (), some (), some (), some (), some (), some (), some (), some (), some (), some (), some (), some (), some (), some (), some (), some (), some (), some (), some (), some (), some (), some (), some (), some (), some (), some (), some (), some (), some (), some (), some (), some (), some (), some (), some (), some (), some (), some (), some (), some (), some (), some (), some (), some (), some (), some (), some (), some (), some (), some (), some (), some (), some (), some (), some (), some (), some (), some (), some (), some (), some (), some (), none, none, none, none, none, none, none, none, none, none, none, none, none, none, none, some (), some (), none, none, none, none, none, some ()]
theorem cT {P : Program} {k : Nat} {i : TI} {xs : List (Option TI)} (h : TyOk P k i) (hx : AllTy P (k + 1) xs) : AllTy P k (some i :: xs) := ⟨fun _ e => Option.some.inj e ▸ h, hx⟩
theorem cN {P : Program} {k : Nat} {xs : List (Option TI)} (hx : AllTy P (k + 1) xs) : AllTy P k (none :: xs) := ⟨fun _ e => (nomatch e), hx⟩
theorem dT {P : Program} {k : Nat} {f : Func} {xs : List (Option Unit)} (h : P.funcs[k]? = some f) (hb : f.body.isSome = true) (hn : (f.name == "runtime.NumGoroutine") = false) (hx : AllFn P (k + 1) xs) : AllFn P k (some () :: xs) := ⟨fun _ => ⟨f, h, hb, hn⟩, hx⟩
theorem dN {P : Program} {k : Nat} {xs : List (Option Unit)} (hx : AllFn P (k + 1) xs) : AllFn P k (none :: xs) := ⟨fun e => (nomatch e), hx⟩

theorem tyL_ok : AllTy Tryd.prog 0 tyL := cN (cT ti1_ok (cT ti2_ok (cT ti3_ok (cT ti4_ok (cT ti5_ok (cT ti6_ok (cT ti7_ok (cT ti8_ok (cT ti9_ok (cT ti10_ok (cT ti11_ok (cT ti12_ok (cT ti13_ok (cT ti14_ok (cT ti15_ok (cT ti16_ok (cT ti17_ok (cT ti18_ok (cT ti19_ok (cT ti20_ok (cT ti21_ok (cT ti22_ok (cT ti23_ok (cT ti24_ok (cT ti25_ok (cT ti26_ok (cT ti27_ok (cT ti28_ok (cT ti29_ok (cN (cT ti31_ok (cN (cT ti33_ok (cT ti34_ok (cT ti35_ok (cT ti36_ok (cT ti37_ok (cT ti38_ok (cT ti39_ok (cT ti40_ok (cT ti41_ok (cN (cT ti43_ok (cT ti44_ok (cT ti45_ok (cT ti46_ok (cT ti47_ok (cT ti48_ok (cT ti49_ok (cT ti50_ok (cN (cT ti52_ok (cT ti53_ok (cT ti54_ok (cT ti55_ok (cT ti56_ok (cN (cT ti58_ok (cT ti59_ok (cT ti60_ok (cT ti61_ok (cT ti62_ok (cT ti63_ok (cT ti64_ok (cT ti65_ok (cT ti66_ok (cT ti67_ok (cT ti68_ok (cT ti69_ok (cT ti70_ok (cT ti71_ok (cT ti72_ok (cT ti73_ok (cT ti74_ok (cT ti75_ok (cT ti76_ok (cT ti77_ok (cT ti78_ok (cT ti79_ok (cT ti80_ok (cT ti81_ok (cT ti82_ok (cT ti83_ok (cT ti84_ok (cT ti85_ok (cT ti86_ok (cN (cT ti88_ok (cT ti89_ok (cT ti90_ok (cT ti91_ok (cT ti92_ok (cT ti93_ok (cT ti94_ok (cT ti95_ok (cT ti96_ok (cT ti97_ok (cT ti98_ok (cT ti99_ok (cT ti100_ok (cT ti101_ok (cT ti102_ok (cT ti103_ok (cT ti104_ok (cT ti105_ok (cT ti106_ok (cT ti107_ok (cT ti108_ok (cT ti109_ok (cT ti110_ok (cT ti111_ok (cT ti112_ok (cT ti113_ok (cN (cT ti115_ok (cT ti116_ok (cT ti117_ok (cT ti118_ok (cT ti119_ok (cT ti120_ok (cT ti121_ok (cN (cT ti123_ok (cT ti124_ok (cT ti125_ok (cT ti126_ok (cT ti127_ok (cT ti128_ok (cT ti129_ok (cT ti130_ok (cT ti131_ok (cT ti132_ok (cT ti133_ok (cT ti134_ok (cT ti135_ok (cT ti136_ok (cT ti137_ok (cT ti138_ok (cT ti139_ok (cT ti140_ok (cT ti141_ok (cT ti142_ok (cT ti143_ok (cT ti144_ok (cN (cT ti146_ok (cT ti147_ok (cT ti148_ok (cT ti149_ok (cT ti150_ok (cT ti151_ok (cT ti152_ok (cT ti153_ok (cT ti154_ok (cT ti155_ok (cT ti156_ok (cT ti157_ok (cT ti158_ok (cT ti159_ok (cT ti160_ok (cT ti161_ok (cT ti162_ok (cT ti163_ok (cT ti164_ok (cT ti165_ok (cT ti166_ok (cT ti167_ok (cT ti168_ok (cT ti169_ok (cT ti170_ok (cT ti171_ok (cT ti172_ok (cT ti173_ok (cT ti174_ok (cT ti175_ok (cT ti176_ok (cT ti177_ok (trivial))))))))))))))))))))))))))))))))))))))))))))))))))))))))))))))))))))))))))))))))))))))))))))))))))))))))))))))))))))))))))))))))))))))))))))))))))))))))))))))))))))))))))))))))))
theorem fnL_ok : AllFn Tryd.prog 0 fnL := dN (dN (dT Tryd.func2 rfl (by decide) (dT Tryd.func3 rfl (by decide) (dT Tryd.func4 rfl (by decide) (dT Tryd.func5 rfl (by decide) (dT Tryd.func6 rfl (by decide) (dT Tryd.func7 rfl (by decide) (dT Tryd.func8 rfl (by decide) (dT Tryd.func9 rfl (by decide) (dT Tryd.func10 rfl (by decide) (dT Tryd.func11 rfl (by decide) (dT Tryd.func12 rfl (by decide) (dT Tryd.func13 rfl (by decide) (dT Tryd.func14 rfl (by decide) (dT Tryd.func15 rfl (by decide) (dT Tryd.func16 rfl (by decide) (dT Tryd.func17 rfl (by decide) (dT Tryd.func18 rfl (by decide) (dT Tryd.func19 rfl (by decide) (dT Tryd.func20 rfl (by decide) (dT Tryd.func21 rfl (by decide) (dT Tryd.func22 rfl (by decide) (dT Tryd.func23 rfl (by decide) (dT Tryd.func24 rfl (by decide) (dT Tryd.func25 rfl (by decide) (dT Tryd.func26 rfl (by decide) (dT Tryd.func27 rfl (by decide) (dT Tryd.func28 rfl (by decide) (dT Tryd.func29 rfl (by decide) (dT Tryd.func30 rfl (by decide) (dT Tryd.func31 rfl (by decide) (dT Tryd.func32 rfl (by decide) (dT Tryd.func33 rfl (by decide) (dT Tryd.func34 rfl (by decide) (dT Tryd.func35 rfl (by decide) (dT Tryd.func36 rfl (by decide) (dT Tryd.func37 rfl (by decide) (dT Tryd.func38 rfl (by decide) (dT Tryd.func39 rfl (by decide) (dT Tryd.func40 rfl (by decide) (dT Tryd.func41 rfl (by decide) (dT Tryd.func42 rfl (by decide) (dT Tryd.func43 rfl (by decide) (dT Tryd.func44 rfl (by decide) (dT Tryd.func45 rfl (by decide) (dT Tryd.func46 rfl (by decide) (dT Tryd.func47 rfl (by decide) (dT Tryd.func48 rfl (by decide) (dT Tryd.func49 rfl (by decide) (dT Tryd.func50 rfl (by decide) (dT Tryd.func51 rfl (by decide) (dT Tryd.func52 rfl (by decide) (dT Tryd.func53 rfl (by decide) (dT Tryd.func54 rfl (by decide) (dT Tryd.func55 rfl (by decide) (dT Tryd.func56 rfl (by decide) (dT Tryd.func57 rfl (by decide) (dT Tryd.func58 rfl (by decide) (dT Tryd.func59 rfl (by decide) (dT Tryd.func60 rfl (by decide) (dT Tryd.func61 rfl (by decide) (dT Tryd.func62 rfl (by decide) (dT Tryd.func63 rfl (by decide) (dT Tryd.func64 rfl (by decide) (dT Tryd.func65 rfl (by decide) (dT Tryd.func66 rfl (by decide) (dT Tryd.func67 rfl (by decide) (dT Tryd.func68 rfl (by decide) (dT Tryd.func69 rfl (by decide) (dT Tryd.func70 rfl (by decide) (dT Tryd.func71 rfl (by decide) (dT Tryd.func72 rfl (by decide) (dT Tryd.func73 rfl (by decide) (dT Tryd.func74 rfl (by decide) (dT Tryd.func75 rfl (by decide) (dT Tryd.func76 rfl (by decide) (dT Tryd.func77 rfl (by decide) (dT Tryd.func78 rfl (by decide) (dT Tryd.func79 rfl (by decide) (dT Tryd.func80 rfl (by decide) (dT Tryd.func81 rfl (by decide) (dT Tryd.func82 rfl (by decide) (dT Tryd.func83 rfl (by decide) (dT Tryd.func84 rfl (by decide) (dT Tryd.func85 rfl (by decide) (dT Tryd.func86 rfl (by decide) (dT Tryd.func87 rfl (by decide) (dT Tryd.func88 rfl (by decide) (dT Tryd.func89 rfl (by decide) (dT Tryd.func90 rfl (by decide) (dT Tryd.func91 rfl (by decide) (dT Tryd.func92 rfl (by decide) (dT Tryd.func93 rfl (by decide) (dT Tryd.func94 rfl (by decide) (dT Tryd.func95 rfl (by decide) (dT Tryd.func96 rfl (by decide) (dT Tryd.func97 rfl (by decide) (dT Tryd.func98 rfl (by decide) (dT Tryd.func99 rfl (by decide) (dT Tryd.func100 rfl (by decide) (dT Tryd.func101 rfl (by decide) (dT Tryd.func102 rfl (by decide) (dT Tryd.func103 rfl (by decide) (dT Tryd.func104 rfl (by decide) (dT Tryd.func105 rfl (by decide) (dT Tryd.func106 rfl (by decide) (dT Tryd.func107 rfl (by decide) (dT Tryd.func108 rfl (by decide) (dT Tryd.func109 rfl (by decide) (dT Tryd.func110 rfl (by decide) (dT Tryd.func111 rfl (by decide) (dT Tryd.func112 rfl (by decide) (dT Tryd.func113 rfl (by decide) (dT Tryd.func114 rfl (by decide) (dT Tryd.func115 rfl (by decide) (dT Tryd.func116 rfl (by decide) (dT Tryd.func117 rfl (by decide) (dT Tryd.func118 rfl (by decide) (dT Tryd.func119 rfl (by decide) (dT Tryd.func120 rfl (by decide) (dT Tryd.func121 rfl (by decide) (dN (dN (dN (dN (dN (dN (dN (dN (dN (dN (dN (dN (dN (dN (dN (dT Tryd.func137 rfl (by decide) (dT Tryd.func138 rfl (by decide) (dN (dN (dN (dN (dN (dT Tryd.func144 rfl (by decide) (trivial)))))))))))))))))))))))))))))))))))))))))))))))))))))))))))))))))))))))))))))))))))))))))))))))))))))))))))))))))))))))))))))))))))))))))))))))))

def E : Env where
  ty t := nth tyL t
  wrap := false
  fn k := match nth fnL k with
    | some _ => true
    | none => false
  meth t name := match Nat.beq t 155 with
    | true => if name = "dipworks/tide.fits" then some 137 else none
    | false => match Nat.beq t 159 with
      | true => if name = "dipworks/tide.fits" then some 138 else none
      | false => none
  memo t := match Nat.beq t 81 with
    | true => some 5
    | false => none
  ahead t name := match Nat.beq t 155 with
    | true => decide (name = "dipworks/tide.fits")
    | false => match Nat.beq t 159 with
      | true => decide (name = "dipworks/tide.fits")
      | false => false
  eqs t := match Nat.beq t 41 with
    | true => some 2
    | false => match Nat.beq t 54 with
      | true => some 3
      | false => match Nat.beq t 62 with
        | true => some 4
        | false => none
  cm t := Nat.beq t 116
def Ew : Env := { E with wrap := true }
theorem E_ok : E.ok Tryd.prog where
  ty t i h := by simpa using nth_ty (k := 0) tyL_ok h
  fn k h := by
    have h' : nth fnL k = some () := by
      unfold E at h
      cases hk : nth fnL k with
      | none => simp [hk] at h
      | some u => rfl
    simpa using nth_fn (k := 0) fnL_ok h'
  meth t n f h := by
    simp only [E] at h
    split at h
    · rename_i ht
      have ht : t = 155 := by simpa using ht
      split at h
      · rename_i hn
        simp only [Option.some.injEq] at h
        subst ht hn h
        exact ⟨rfl, meth155⟩
      · cases h
    · split at h
      · rename_i ht
        have ht : t = 159 := by simpa using ht
        split at h
        · rename_i hn
          simp only [Option.some.injEq] at h
          subst ht hn h
          exact ⟨rfl, meth159⟩
        · cases h
      · cases h
  mixed := rfl
  memo t n h := by
    simp only [E] at h
    split at h
    · rename_i ht
      have ht : t = 81 := by simpa using ht
      simp only [Option.some.injEq] at h
      subst ht h
      exact memo81
    · cases h
  ahead t n h := by
    simp only [E] at h
    split at h
    · rename_i ht
      have ht : t = 155 := by simpa using ht
      have hn := of_decide_eq_true h
      subst ht hn
      exact ahead155
    · split at h
      · rename_i ht
        have ht : t = 159 := by simpa using ht
        have hn := of_decide_eq_true h
        subst ht hn
        exact ahead159
      · cases h
  eqs t n h := by
    simp only [E] at h
    split at h
    · rename_i ht
      have ht : t = 41 := by simpa using ht
      simp only [Option.some.injEq] at h
      subst ht h
      exact eq41
    · split at h
      · rename_i ht
        have ht : t = 54 := by simpa using ht
        simp only [Option.some.injEq] at h
        subst ht h
        exact eq54
      · split at h
        · rename_i ht
          have ht : t = 62 := by simpa using ht
          simp only [Option.some.injEq] at h
          subst ht h
          exact eq62
        · cases h
  cm t h := by
    have ht : t = 116 := by simpa [E] using h
    subst ht
    exact cm116
theorem Ew_ok : Ew.ok Tryd.prog := ⟨E_ok.ty, E_ok.fn, E_ok.meth, E_ok.mixed, E_ok.memo, E_ok.ahead, E_ok.eqs, E_ok.cm⟩
end Go.Proofs.YtipbempkngfdbaaDoor
