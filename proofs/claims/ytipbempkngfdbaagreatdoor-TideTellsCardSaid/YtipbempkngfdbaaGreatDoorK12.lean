/-
  Parts: E.
-/
import Derived.Test.YtipbempkngfdbaaGreatDoorK8
import Derived.Test.YtipbempkngfdbaaGreatDoorK11
import Derived.Test.YtipbempkngfdbaaGreatDoorProg
set_option linter.unusedVariables false
/-
  The tables of types and functions, as the layer Sy reads them, and the proof that they tell the truth.
-/
set_option maxRecDepth 100000
namespace Go.Proofs.YtipbempkngfdbaaGreatDoor
open Go Go.Sy

def nth {α : Type} : List (Option α) → Nat → Option α
  | [], _ => none
  | x :: _, 0 => x
  | _ :: xs, n + 1 => nth xs n
def AllTy (P : Program) : Nat → List (Option TI) → Prop
  | _, [] => True
  | k, x :: xs => (∀ i, x = some i → TyOk P k i) ∧ AllTy P (k + 1) xs
theorem nth_ty {P : Program} : ∀ {l : List (Option TI)} {k t : Nat} {i : TI}, AllTy P k l → nth l t = some i → TyOk P (k + t) i
  | [], _, _, _, _, h => by cases h
  | x :: xs, k, 0, i, h, e => h.1 i e
  | x :: xs, k, t + 1, i, h, e => by
    have := nth_ty (t := t) h.2 e
    rwa [Nat.add_assoc, Nat.add_comm 1] at this
def AllFn (P : Program) : Nat → List (Option Unit) → Prop
  | _, [] => True
  | k, x :: xs => (x = some () → ∃ f, P.funcs[k]? = some f ∧ f.body.isSome = true ∧ (f.name == "runtime.NumGoroutine") = false) ∧ AllFn P (k + 1) xs
theorem nth_fn {P : Program} : ∀ {l : List (Option Unit)} {k t : Nat}, AllFn P k l → nth l t = some () → ∃ f, P.funcs[k + t]? = some f ∧ f.body.isSome = true ∧ (f.name == "runtime.NumGoroutine") = false
  | [], _, _, _, h => by cases h
  | x :: xs, k, 0, h, e => h.1 e
  | x :: xs, k, t + 1, h, e => by
    have := nth_fn (t := t) h.2 e
    rwa [Nat.add_assoc, Nat.add_comm 1] at this

theorem info_of {t : Nat} {i : TypeInfo} (h : Tryz.prog.types[t]? = some i) : Tryz.prog.info? t = some i := by
  have hl : t < Tryz.prog.types.size := by
    rcases Nat.lt_or_ge t Tryz.prog.types.size with hl | hl
    · exact hl
    · rw [Array.getElem?_eq_none hl] at h; cases h
  show Tables.info? Tryz.prog.toTables t = some i
  unfold Tables.info?
  rw [if_pos hl]; exact h

def ti1 : TI := ⟨Go.TypeDesc.func #[] #[] false, 1, 8, .fnil⟩
theorem ti1_ok : TyOk Tryz.prog 1 ti1 := ⟨Tryz.underlying1, ⟨Tryz.t1, _, info_of Tryz.type1, rfl, rfl, rfl, fun _ => rfl, rfl⟩⟩
def ti2 : TI := ⟨Go.TypeDesc.int Go.IntKind.i64, 1, 8, .int .i64 0⟩
theorem ti2_ok : TyOk Tryz.prog 2 ti2 := ⟨Tryz.underlying2, ⟨Tryz.t2, _, info_of Tryz.type2, rfl, rfl, rfl, fun _ => rfl, rfl⟩⟩
def ti3 : TI := ⟨Go.TypeDesc.int Go.IntKind.i64, 1, 8, .int .i64 0⟩
theorem ti3_ok : TyOk Tryz.prog 3 ti3 := ⟨Tryz.underlying3, ⟨Tryz.t3, _, info_of Tryz.type3, rfl, rfl, rfl, fun _ => rfl, rfl⟩⟩
def ti4 : TI := ⟨Go.TypeDesc.bool, 1, 1, .bool false⟩
theorem ti4_ok : TyOk Tryz.prog 4 ti4 := ⟨Tryz.underlying4, ⟨Tryz.t4, _, info_of Tryz.type4, rfl, rfl, rfl, fun _ => rfl, rfl⟩⟩
def ti5 : TI := ⟨Go.TypeDesc.int Go.IntKind.u8, 1, 1, .int .u8 0⟩
theorem ti5_ok : TyOk Tryz.prog 5 ti5 := ⟨Tryz.underlying5, ⟨Tryz.t5, _, info_of Tryz.type5, rfl, rfl, rfl, fun _ => rfl, rfl⟩⟩
def ti6 : TI := ⟨Go.TypeDesc.int Go.IntKind.u8, 1, 1, .int .u8 0⟩
theorem ti6_ok : TyOk Tryz.prog 6 ti6 := ⟨Tryz.underlying6, ⟨Tryz.t6, _, info_of Tryz.type6, rfl, rfl, rfl, fun _ => rfl, rfl⟩⟩
def ti7 : TI := ⟨Go.TypeDesc.struct #[{ name := "x", type := 2, offset := 0, embedded := false, tag := "", pkgPath := "runtime", byteOffset := 0 }, { name := "y", type := 3, offset := 1, embedded := false, tag := "", pkgPath := "runtime", byteOffset := 8 }, { name := "signed", type := 4, offset := 2, embedded := false, tag := "", pkgPath := "runtime", byteOffset := 16 }, { name := "code", type := 6, offset := 3, embedded := false, tag := "", pkgPath := "runtime", byteOffset := 17 }], 4, 24, .agg [.int .i64 0, .int .i64 0, .bool false, .int .u8 0]⟩
theorem ti7_ok : TyOk Tryz.prog 7 ti7 := ⟨Tryz.underlying7, ⟨Tryz.t7, _, info_of Tryz.type7, rfl, rfl, rfl, fun _ => rfl, rfl⟩⟩
def ti8 : TI := ⟨Go.TypeDesc.struct #[{ name := "x", type := 2, offset := 0, embedded := false, tag := "", pkgPath := "runtime", byteOffset := 0 }, { name := "y", type := 3, offset := 1, embedded := false, tag := "", pkgPath := "runtime", byteOffset := 8 }, { name := "signed", type := 4, offset := 2, embedded := false, tag := "", pkgPath := "runtime", byteOffset := 16 }, { name := "code", type := 6, offset := 3, embedded := false, tag := "", pkgPath := "runtime", byteOffset := 17 }], 4, 24, .agg [.int .i64 0, .int .i64 0, .bool false, .int .u8 0]⟩
theorem ti8_ok : TyOk Tryz.prog 8 ti8 := ⟨Tryz.underlying8, ⟨Tryz.t8, _, info_of Tryz.type8, rfl, rfl, rfl, fun _ => rfl, rfl⟩⟩
def ti9 : TI := ⟨Go.TypeDesc.string, 1, 16, .str ({ data := #[] })⟩
theorem ti9_ok : TyOk Tryz.prog 9 ti9 := ⟨Tryz.underlying9, ⟨Tryz.t9, _, info_of Tryz.type9, rfl, rfl, rfl, fun _ => rfl, rfl⟩⟩
def ti10 : TI := ⟨Go.TypeDesc.string, 1, 16, .str ({ data := #[] })⟩
theorem ti10_ok : TyOk Tryz.prog 10 ti10 := ⟨Tryz.underlying10, ⟨Tryz.t10, _, info_of Tryz.type10, rfl, rfl, rfl, fun _ => rfl, rfl⟩⟩
def ti11 : TI := ⟨Go.TypeDesc.string, 1, 16, .str ({ data := #[] })⟩
theorem ti11_ok : TyOk Tryz.prog 11 ti11 := ⟨Tryz.underlying11, ⟨Tryz.t11, _, info_of Tryz.type11, rfl, rfl, rfl, fun _ => rfl, rfl⟩⟩
def ti12 : TI := ⟨Go.TypeDesc.int Go.IntKind.u64, 1, 8, .int .u64 0⟩
theorem ti12_ok : TyOk Tryz.prog 12 ti12 := ⟨Tryz.underlying12, ⟨Tryz.t12, _, info_of Tryz.type12, rfl, rfl, rfl, fun _ => rfl, rfl⟩⟩
def ti13 : TI := ⟨Go.TypeDesc.struct #[{ name := "msg", type := 9, offset := 0, embedded := false, tag := "", pkgPath := "runtime", byteOffset := 0 }, { name := "addr", type := 12, offset := 1, embedded := false, tag := "", pkgPath := "runtime", byteOffset := 16 }], 2, 24, .agg [.str ({ data := #[] }), .int .u64 0]⟩
theorem ti13_ok : TyOk Tryz.prog 13 ti13 := ⟨Tryz.underlying13, ⟨Tryz.t13, _, info_of Tryz.type13, rfl, rfl, rfl, fun _ => rfl, rfl⟩⟩
def ti14 : TI := ⟨Go.TypeDesc.struct #[{ name := "msg", type := 9, offset := 0, embedded := false, tag := "", pkgPath := "runtime", byteOffset := 0 }, { name := "addr", type := 12, offset := 1, embedded := false, tag := "", pkgPath := "runtime", byteOffset := 16 }], 2, 24, .agg [.str ({ data := #[] }), .int .u64 0]⟩
theorem ti14_ok : TyOk Tryz.prog 14 ti14 := ⟨Tryz.underlying14, ⟨Tryz.t14, _, info_of Tryz.type14, rfl, rfl, rfl, fun _ => rfl, rfl⟩⟩
def ti15 : TI := ⟨Go.TypeDesc.pointer 147, 1, 8, .pnil⟩
theorem ti15_ok : TyOk Tryz.prog 15 ti15 := ⟨Tryz.underlying15, ⟨Tryz.t15, _, info_of Tryz.type15, rfl, rfl, rfl, fun _ => rfl, rfl⟩⟩
def ti16 : TI := ⟨Go.TypeDesc.pointer 150, 1, 8, .pnil⟩
theorem ti16_ok : TyOk Tryz.prog 16 ti16 := ⟨Tryz.underlying16, ⟨Tryz.t16, _, info_of Tryz.type16, rfl, rfl, rfl, fun _ => rfl, rfl⟩⟩
def ti17 : TI := ⟨Go.TypeDesc.pointer 158, 1, 8, .pnil⟩
theorem ti17_ok : TyOk Tryz.prog 17 ti17 := ⟨Tryz.underlying17, ⟨Tryz.t17, _, info_of Tryz.type17, rfl, rfl, rfl, fun _ => rfl, rfl⟩⟩
def ti18 : TI := ⟨Go.TypeDesc.struct #[{ name := "typ", type := 17, offset := 0, embedded := false, tag := "", pkgPath := "internal/runtime/maps", byteOffset := 0 }], 1, 8, .agg [.pnil]⟩
theorem ti18_ok : TyOk Tryz.prog 18 ti18 := ⟨Tryz.underlying18, ⟨Tryz.t18, _, info_of Tryz.type18, rfl, rfl, rfl, fun _ => rfl, rfl⟩⟩
def ti19 : TI := ⟨Go.TypeDesc.struct #[{ name := "typ", type := 17, offset := 0, embedded := false, tag := "", pkgPath := "internal/runtime/maps", byteOffset := 0 }], 1, 8, .agg [.pnil]⟩
theorem ti19_ok : TyOk Tryz.prog 19 ti19 := ⟨Tryz.underlying19, ⟨Tryz.t19, _, info_of Tryz.type19, rfl, rfl, rfl, fun _ => rfl, rfl⟩⟩
def ti20 : TI := ⟨Go.TypeDesc.interface #[], 1, 16, .inil⟩
theorem ti20_ok : TyOk Tryz.prog 20 ti20 := ⟨Tryz.underlying20, ⟨Tryz.t20, _, info_of Tryz.type20, rfl, rfl, rfl, fun _ => rfl, rfl⟩⟩
def ti21 : TI := ⟨Go.TypeDesc.int Go.IntKind.i32, 1, 4, .int .i32 0⟩
theorem ti21_ok : TyOk Tryz.prog 21 ti21 := ⟨Tryz.underlying21, ⟨Tryz.t21, _, info_of Tryz.type21, rfl, rfl, rfl, fun _ => rfl, rfl⟩⟩
def ti22 : TI := ⟨Go.TypeDesc.slice 43, 1, 24, .snil⟩
theorem ti22_ok : TyOk Tryz.prog 22 ti22 := ⟨Tryz.underlying22, ⟨Tryz.t22, _, info_of Tryz.type22, rfl, rfl, rfl, fun _ => rfl, rfl⟩⟩
def ti23 : TI := ⟨Go.TypeDesc.slice 30, 1, 24, .snil⟩
theorem ti23_ok : TyOk Tryz.prog 23 ti23 := ⟨Tryz.underlying23, ⟨Tryz.t23, _, info_of Tryz.type23, rfl, rfl, rfl, fun _ => rfl, rfl⟩⟩
def ti24 : TI := ⟨Go.TypeDesc.slice 96, 1, 24, .snil⟩
theorem ti24_ok : TyOk Tryz.prog 24 ti24 := ⟨Tryz.underlying24, ⟨Tryz.t24, _, info_of Tryz.type24, rfl, rfl, rfl, fun _ => rfl, rfl⟩⟩
def ti25 : TI := ⟨Go.TypeDesc.struct #[{ name := "Marks", type := 22, offset := 0, embedded := false, tag := "", pkgPath := "", byteOffset := 0 }, { name := "Sand", type := 23, offset := 1, embedded := false, tag := "", pkgPath := "", byteOffset := 24 }, { name := "Looks", type := 24, offset := 2, embedded := false, tag := "", pkgPath := "", byteOffset := 48 }], 3, 72, .agg [.snil, .snil, .snil]⟩
theorem ti25_ok : TyOk Tryz.prog 25 ti25 := ⟨Tryz.underlying25, ⟨Tryz.t25, _, info_of Tryz.type25, rfl, rfl, rfl, fun _ => rfl, rfl⟩⟩
def ti26 : TI := ⟨Go.TypeDesc.struct #[{ name := "Marks", type := 22, offset := 0, embedded := false, tag := "", pkgPath := "", byteOffset := 0 }, { name := "Sand", type := 23, offset := 1, embedded := false, tag := "", pkgPath := "", byteOffset := 24 }, { name := "Looks", type := 24, offset := 2, embedded := false, tag := "", pkgPath := "", byteOffset := 48 }], 3, 72, .agg [.snil, .snil, .snil]⟩
theorem ti26_ok : TyOk Tryz.prog 26 ti26 := ⟨Tryz.underlying26, ⟨Tryz.t26, _, info_of Tryz.type26, rfl, rfl, rfl, fun _ => rfl, rfl⟩⟩
def ti27 : TI := ⟨Go.TypeDesc.func #[26, 3] #[4] false, 1, 8, .fnil⟩
theorem ti27_ok : TyOk Tryz.prog 27 ti27 := ⟨Tryz.underlying27, ⟨Tryz.t27, _, info_of Tryz.type27, rfl, rfl, rfl, fun _ => rfl, rfl⟩⟩
def ti28 : TI := ⟨Go.TypeDesc.func #[] #[4] false, 1, 8, .fnil⟩
theorem ti28_ok : TyOk Tryz.prog 28 ti28 := ⟨Tryz.underlying28, ⟨Tryz.t28, _, info_of Tryz.type28, rfl, rfl, rfl, fun _ => rfl, rfl⟩⟩
def ti29 : TI := ⟨Go.TypeDesc.struct #[{ name := "Lo", type := 3, offset := 0, embedded := false, tag := "", pkgPath := "", byteOffset := 0 }, { name := "Hi", type := 3, offset := 1, embedded := false, tag := "", pkgPath := "", byteOffset := 8 }], 2, 16, .agg [.int .i64 0, .int .i64 0]⟩
theorem ti29_ok : TyOk Tryz.prog 29 ti29 := ⟨Tryz.underlying29, ⟨Tryz.t29, _, info_of Tryz.type29, rfl, rfl, rfl, fun _ => rfl, rfl⟩⟩
def ti30 : TI := ⟨Go.TypeDesc.struct #[{ name := "Lo", type := 3, offset := 0, embedded := false, tag := "", pkgPath := "", byteOffset := 0 }, { name := "Hi", type := 3, offset := 1, embedded := false, tag := "", pkgPath := "", byteOffset := 8 }], 2, 16, .agg [.int .i64 0, .int .i64 0]⟩
theorem ti30_ok : TyOk Tryz.prog 30 ti30 := ⟨Tryz.underlying30, ⟨Tryz.t30, _, info_of Tryz.type30, rfl, rfl, rfl, fun _ => rfl, rfl⟩⟩
def ti31 : TI := ⟨Go.TypeDesc.int Go.IntKind.i64, 1, 8, .int .i64 0⟩
theorem ti31_ok : TyOk Tryz.prog 31 ti31 := ⟨Tryz.underlying31, ⟨Tryz.t31, _, info_of Tryz.type31, rfl, rfl, rfl, fun _ => rfl, rfl⟩⟩
def ti33 : TI := ⟨Go.TypeDesc.func #[26, 3] #[30, 31] false, 1, 8, .fnil⟩
theorem ti33_ok : TyOk Tryz.prog 33 ti33 := ⟨Tryz.underlying33, ⟨Tryz.t33, _, info_of Tryz.type33, rfl, rfl, rfl, fun _ => rfl, rfl⟩⟩
def ti34 : TI := ⟨Go.TypeDesc.func #[26, 3, 3] #[30, 31] false, 1, 8, .fnil⟩
theorem ti34_ok : TyOk Tryz.prog 34 ti34 := ⟨Tryz.underlying34, ⟨Tryz.t34, _, info_of Tryz.type34, rfl, rfl, rfl, fun _ => rfl, rfl⟩⟩
def ti36 : TI := ⟨Go.TypeDesc.func #[26, 3, 3, 3] #[3, 3, 31] false, 1, 8, .fnil⟩
theorem ti36_ok : TyOk Tryz.prog 36 ti36 := ⟨Tryz.underlying36, ⟨Tryz.t36, _, info_of Tryz.type36, rfl, rfl, rfl, fun _ => rfl, rfl⟩⟩
def ti38 : TI := ⟨Go.TypeDesc.func #[26] #[3, 31] false, 1, 8, .fnil⟩
theorem ti38_ok : TyOk Tryz.prog 38 ti38 := ⟨Tryz.underlying38, ⟨Tryz.t38, _, info_of Tryz.type38, rfl, rfl, rfl, fun _ => rfl, rfl⟩⟩
def ti39 : TI := ⟨Go.TypeDesc.func #[26, 3] #[3, 3, 31] false, 1, 8, .fnil⟩
theorem ti39_ok : TyOk Tryz.prog 39 ti39 := ⟨Tryz.underlying39, ⟨Tryz.t39, _, info_of Tryz.type39, rfl, rfl, rfl, fun _ => rfl, rfl⟩⟩
def ti40 : TI := ⟨Go.TypeDesc.func #[26, 3, 3, 3, 3] #[4] false, 1, 8, .fnil⟩
theorem ti40_ok : TyOk Tryz.prog 40 ti40 := ⟨Tryz.underlying40, ⟨Tryz.t40, _, info_of Tryz.type40, rfl, rfl, rfl, fun _ => rfl, rfl⟩⟩
def ti41 : TI := ⟨Go.TypeDesc.func #[26] #[4] false, 1, 8, .fnil⟩
theorem ti41_ok : TyOk Tryz.prog 41 ti41 := ⟨Tryz.underlying41, ⟨Tryz.t41, _, info_of Tryz.type41, rfl, rfl, rfl, fun _ => rfl, rfl⟩⟩
def ti42 : TI := ⟨Go.TypeDesc.struct #[{ name := "Minute", type := 3, offset := 0, embedded := false, tag := "", pkgPath := "", byteOffset := 0 }, { name := "Height", type := 30, offset := 1, embedded := false, tag := "", pkgPath := "", byteOffset := 8 }], 3, 24, .agg [.int .i64 0, .int .i64 0, .int .i64 0]⟩
theorem ti42_ok : TyOk Tryz.prog 42 ti42 := ⟨Tryz.underlying42, ⟨Tryz.t42, _, info_of Tryz.type42, rfl, rfl, rfl, fun _ => rfl, rfl⟩⟩
def ti43 : TI := ⟨Go.TypeDesc.struct #[{ name := "Minute", type := 3, offset := 0, embedded := false, tag := "", pkgPath := "", byteOffset := 0 }, { name := "Height", type := 30, offset := 1, embedded := false, tag := "", pkgPath := "", byteOffset := 8 }], 3, 24, .agg [.int .i64 0, .int .i64 0, .int .i64 0]⟩
theorem ti43_ok : TyOk Tryz.prog 43 ti43 := ⟨Tryz.underlying43, ⟨Tryz.t43, _, info_of Tryz.type43, rfl, rfl, rfl, fun _ => rfl, rfl⟩⟩
def ti44 : TI := ⟨Go.TypeDesc.func #[4] #[26] false, 1, 8, .fnil⟩
theorem ti44_ok : TyOk Tryz.prog 44 ti44 := ⟨Tryz.underlying44, ⟨Tryz.t44, _, info_of Tryz.type44, rfl, rfl, rfl, fun _ => rfl, rfl⟩⟩
def ti46 : TI := ⟨Go.TypeDesc.func #[26, 3, 3, 3] #[23, 31] false, 1, 8, .fnil⟩
theorem ti46_ok : TyOk Tryz.prog 46 ti46 := ⟨Tryz.underlying46, ⟨Tryz.t46, _, info_of Tryz.type46, rfl, rfl, rfl, fun _ => rfl, rfl⟩⟩
def ti47 : TI := ⟨Go.TypeDesc.func #[26, 3, 3, 3, 4] #[3, 31] false, 1, 8, .fnil⟩
theorem ti47_ok : TyOk Tryz.prog 47 ti47 := ⟨Tryz.underlying47, ⟨Tryz.t47, _, info_of Tryz.type47, rfl, rfl, rfl, fun _ => rfl, rfl⟩⟩
def ti48 : TI := ⟨Go.TypeDesc.func #[3, 3] #[30] false, 1, 8, .fnil⟩
theorem ti48_ok : TyOk Tryz.prog 48 ti48 := ⟨Tryz.underlying48, ⟨Tryz.t48, _, info_of Tryz.type48, rfl, rfl, rfl, fun _ => rfl, rfl⟩⟩
def ti49 : TI := ⟨Go.TypeDesc.func #[23, 23] #[4] false, 1, 8, .fnil⟩
theorem ti49_ok : TyOk Tryz.prog 49 ti49 := ⟨Tryz.underlying49, ⟨Tryz.t49, _, info_of Tryz.type49, rfl, rfl, rfl, fun _ => rfl, rfl⟩⟩
def ti50 : TI := ⟨Go.TypeDesc.func #[20, 51] #[] false, 1, 8, .fnil⟩
theorem ti50_ok : TyOk Tryz.prog 50 ti50 := ⟨Tryz.underlying50, ⟨Tryz.t50, _, info_of Tryz.type50, rfl, rfl, rfl, fun _ => rfl, rfl⟩⟩
def ti51 : TI := ⟨Go.TypeDesc.pointer 31, 1, 8, .pnil⟩
theorem ti51_ok : TyOk Tryz.prog 51 ti51 := ⟨Tryz.underlying51, ⟨Tryz.t51, _, info_of Tryz.type51, rfl, rfl, rfl, fun _ => rfl, rfl⟩⟩
def ti52 : TI := ⟨Go.TypeDesc.pointer 81, 1, 8, .pnil⟩
theorem ti52_ok : TyOk Tryz.prog 52 ti52 := ⟨Tryz.underlying52, ⟨Tryz.t52, _, info_of Tryz.type52, rfl, rfl, rfl, fun _ => rfl, rfl⟩⟩
def ti53 : TI := ⟨Go.TypeDesc.func #[26, 55] #[52] false, 1, 8, .fnil⟩
theorem ti53_ok : TyOk Tryz.prog 53 ti53 := ⟨Tryz.underlying53, ⟨Tryz.t53, _, info_of Tryz.type53, rfl, rfl, rfl, fun _ => rfl, rfl⟩⟩
def ti54 : TI := ⟨Go.TypeDesc.func #[3] #[4] false, 1, 8, .fnil⟩
theorem ti54_ok : TyOk Tryz.prog 54 ti54 := ⟨Tryz.underlying54, ⟨Tryz.t54, _, info_of Tryz.type54, rfl, rfl, rfl, fun _ => rfl, rfl⟩⟩
def ti55 : TI := ⟨Go.TypeDesc.func #[52] #[4] false, 1, 8, .fnil⟩
theorem ti55_ok : TyOk Tryz.prog 55 ti55 := ⟨Tryz.underlying55, ⟨Tryz.t55, _, info_of Tryz.type55, rfl, rfl, rfl, fun _ => rfl, rfl⟩⟩
def ti56 : TI := ⟨Go.TypeDesc.func #[57, 66] #[30] false, 1, 8, .fnil⟩
theorem ti56_ok : TyOk Tryz.prog 56 ti56 := ⟨Tryz.underlying56, ⟨Tryz.t56, _, info_of Tryz.type56, rfl, rfl, rfl, fun _ => rfl, rfl⟩⟩
def ti57 : TI := ⟨Go.TypeDesc.slice 64, 1, 24, .snil⟩
theorem ti57_ok : TyOk Tryz.prog 57 ti57 := ⟨Tryz.underlying57, ⟨Tryz.t57, _, info_of Tryz.type57, rfl, rfl, rfl, fun _ => rfl, rfl⟩⟩
def ti58 : TI := ⟨Go.TypeDesc.func #[] #[57] false, 1, 8, .fnil⟩
theorem ti58_ok : TyOk Tryz.prog 58 ti58 := ⟨Tryz.underlying58, ⟨Tryz.t58, _, info_of Tryz.type58, rfl, rfl, rfl, fun _ => rfl, rfl⟩⟩
def ti59 : TI := ⟨Go.TypeDesc.array 4 3, 4, 32, .agg [.int .i64 0, .int .i64 0, .int .i64 0, .int .i64 0]⟩
theorem ti59_ok : TyOk Tryz.prog 59 ti59 := ⟨Tryz.underlying59, ⟨Tryz.t59, _, info_of Tryz.type59, rfl, rfl, rfl, fun _ => rfl, rfl⟩⟩
def ti60 : TI := ⟨Go.TypeDesc.array 4 3, 4, 32, .agg [.int .i64 0, .int .i64 0, .int .i64 0, .int .i64 0]⟩
theorem ti60_ok : TyOk Tryz.prog 60 ti60 := ⟨Tryz.underlying60, ⟨Tryz.t60, _, info_of Tryz.type60, rfl, rfl, rfl, fun _ => rfl, rfl⟩⟩
def ti61 : TI := ⟨Go.TypeDesc.int Go.IntKind.u64, 1, 8, .int .u64 0⟩
theorem ti61_ok : TyOk Tryz.prog 61 ti61 := ⟨Tryz.underlying61, ⟨Tryz.t61, _, info_of Tryz.type61, rfl, rfl, rfl, fun _ => rfl, rfl⟩⟩
def ti62 : TI := ⟨Go.TypeDesc.array 4 61, 4, 32, .agg [.int .u64 0, .int .u64 0, .int .u64 0, .int .u64 0]⟩
theorem ti62_ok : TyOk Tryz.prog 62 ti62 := ⟨Tryz.underlying62, ⟨Tryz.t62, _, info_of Tryz.type62, rfl, rfl, rfl, fun _ => rfl, rfl⟩⟩
def ti63 : TI := ⟨Go.TypeDesc.struct #[{ name := "heights", type := 60, offset := 0, embedded := true, tag := "", pkgPath := "dipworks/tide", byteOffset := 0 }, { name := "sand", type := 62, offset := 4, embedded := false, tag := "", pkgPath := "dipworks/tide", byteOffset := 32 }], 8, 64, .agg [.int .i64 0, .int .i64 0, .int .i64 0, .int .i64 0, .int .u64 0, .int .u64 0, .int .u64 0, .int .u64 0]⟩
theorem ti63_ok : TyOk Tryz.prog 63 ti63 := ⟨Tryz.underlying63, ⟨Tryz.t63, _, info_of Tryz.type63, rfl, rfl, rfl, fun _ => rfl, rfl⟩⟩
def ti64 : TI := ⟨Go.TypeDesc.struct #[{ name := "heights", type := 60, offset := 0, embedded := true, tag := "", pkgPath := "dipworks/tide", byteOffset := 0 }, { name := "sand", type := 62, offset := 4, embedded := false, tag := "", pkgPath := "dipworks/tide", byteOffset := 32 }], 8, 64, .agg [.int .i64 0, .int .i64 0, .int .i64 0, .int .i64 0, .int .u64 0, .int .u64 0, .int .u64 0, .int .u64 0]⟩
theorem ti64_ok : TyOk Tryz.prog 64 ti64 := ⟨Tryz.underlying64, ⟨Tryz.t64, _, info_of Tryz.type64, rfl, rfl, rfl, fun _ => rfl, rfl⟩⟩
def ti65 : TI := ⟨Go.TypeDesc.func #[60, 3] #[3] false, 1, 8, .fnil⟩
theorem ti65_ok : TyOk Tryz.prog 65 ti65 := ⟨Tryz.underlying65, ⟨Tryz.t65, _, info_of Tryz.type65, rfl, rfl, rfl, fun _ => rfl, rfl⟩⟩
def ti66 : TI := ⟨Go.TypeDesc.func #[64] #[3, 3] false, 1, 8, .fnil⟩
theorem ti66_ok : TyOk Tryz.prog 66 ti66 := ⟨Tryz.underlying66, ⟨Tryz.t66, _, info_of Tryz.type66, rfl, rfl, rfl, fun _ => rfl, rfl⟩⟩
def ti67 : TI := ⟨Go.TypeDesc.slice 74, 1, 24, .snil⟩
theorem ti67_ok : TyOk Tryz.prog 67 ti67 := ⟨Tryz.underlying67, ⟨Tryz.t67, _, info_of Tryz.type67, rfl, rfl, rfl, fun _ => rfl, rfl⟩⟩
def ti69 : TI := ⟨Go.TypeDesc.func #[26, 4] #[67, 31] false, 1, 8, .fnil⟩
theorem ti69_ok : TyOk Tryz.prog 69 ti69 := ⟨Tryz.underlying69, ⟨Tryz.t69, _, info_of Tryz.type69, rfl, rfl, rfl, fun _ => rfl, rfl⟩⟩
def ti70 : TI := ⟨Go.TypeDesc.func #[30, 3] #[30] false, 1, 8, .fnil⟩
theorem ti70_ok : TyOk Tryz.prog 70 ti70 := ⟨Tryz.underlying70, ⟨Tryz.t70, _, info_of Tryz.type70, rfl, rfl, rfl, fun _ => rfl, rfl⟩⟩
def ti71 : TI := ⟨Go.TypeDesc.func #[26, 72, 3] #[3] false, 1, 8, .fnil⟩
theorem ti71_ok : TyOk Tryz.prog 71 ti71 := ⟨Tryz.underlying71, ⟨Tryz.t71, _, info_of Tryz.type71, rfl, rfl, rfl, fun _ => rfl, rfl⟩⟩
def ti72 : TI := ⟨Go.TypeDesc.slice 3, 1, 24, .snil⟩
theorem ti72_ok : TyOk Tryz.prog 72 ti72 := ⟨Tryz.underlying72, ⟨Tryz.t72, _, info_of Tryz.type72, rfl, rfl, rfl, fun _ => rfl, rfl⟩⟩
def ti73 : TI := ⟨Go.TypeDesc.struct #[{ name := "Heights", type := 72, offset := 0, embedded := false, tag := "", pkgPath := "", byteOffset := 0 }, { name := "Sand", type := 72, offset := 1, embedded := false, tag := "", pkgPath := "", byteOffset := 24 }], 2, 48, .agg [.snil, .snil]⟩
theorem ti73_ok : TyOk Tryz.prog 73 ti73 := ⟨Tryz.underlying73, ⟨Tryz.t73, _, info_of Tryz.type73, rfl, rfl, rfl, fun _ => rfl, rfl⟩⟩
def ti74 : TI := ⟨Go.TypeDesc.struct #[{ name := "Heights", type := 72, offset := 0, embedded := false, tag := "", pkgPath := "", byteOffset := 0 }, { name := "Sand", type := 72, offset := 1, embedded := false, tag := "", pkgPath := "", byteOffset := 24 }], 2, 48, .agg [.snil, .snil]⟩
theorem ti74_ok : TyOk Tryz.prog 74 ti74 := ⟨Tryz.underlying74, ⟨Tryz.t74, _, info_of Tryz.type74, rfl, rfl, rfl, fun _ => rfl, rfl⟩⟩
def ti75 : TI := ⟨Go.TypeDesc.func #[57, 3, 3] #[30] false, 1, 8, .fnil⟩
theorem ti75_ok : TyOk Tryz.prog 75 ti75 := ⟨Tryz.underlying75, ⟨Tryz.t75, _, info_of Tryz.type75, rfl, rfl, rfl, fun _ => rfl, rfl⟩⟩
def ti76 : TI := ⟨Go.TypeDesc.func #[26, 67, 3, 3] #[30] false, 1, 8, .fnil⟩
theorem ti76_ok : TyOk Tryz.prog 76 ti76 := ⟨Tryz.underlying76, ⟨Tryz.t76, _, info_of Tryz.type76, rfl, rfl, rfl, fun _ => rfl, rfl⟩⟩
def ti78 : TI := ⟨Go.TypeDesc.func #[61] #[3, 3] false, 1, 8, .fnil⟩
theorem ti78_ok : TyOk Tryz.prog 78 ti78 := ⟨Tryz.underlying78, ⟨Tryz.t78, _, info_of Tryz.type78, rfl, rfl, rfl, fun _ => rfl, rfl⟩⟩
def ti79 : TI := ⟨Go.TypeDesc.map 112 3, 1, 8, .mnil⟩
theorem ti79_ok : TyOk Tryz.prog 79 ti79 := ⟨Tryz.underlying79, ⟨Tryz.t79, _, info_of Tryz.type79, rfl, rfl, rfl, fun _ => rfl, rfl⟩⟩
def ti80 : TI := ⟨Go.TypeDesc.struct #[{ name := "Tide", type := 26, offset := 0, embedded := true, tag := "", pkgPath := "", byteOffset := 0 }, { name := "known", type := 79, offset := 3, embedded := false, tag := "", pkgPath := "dipworks/tide", byteOffset := 72 }], 4, 80, .agg [.snil, .snil, .snil, .mnil]⟩
theorem ti80_ok : TyOk Tryz.prog 80 ti80 := ⟨Tryz.underlying80, ⟨Tryz.t80, _, info_of Tryz.type80, rfl, rfl, rfl, fun _ => rfl, rfl⟩⟩
def ti81 : TI := ⟨Go.TypeDesc.struct #[{ name := "Tide", type := 26, offset := 0, embedded := true, tag := "", pkgPath := "", byteOffset := 0 }, { name := "known", type := 79, offset := 3, embedded := false, tag := "", pkgPath := "dipworks/tide", byteOffset := 72 }], 4, 80, .agg [.snil, .snil, .snil, .mnil]⟩
theorem ti81_ok : TyOk Tryz.prog 81 ti81 := ⟨Tryz.underlying81, ⟨Tryz.t81, _, info_of Tryz.type81, rfl, rfl, rfl, fun _ => rfl, rfl⟩⟩
def ti82 : TI := ⟨Go.TypeDesc.map 3 3, 1, 8, .mnil⟩
theorem ti82_ok : TyOk Tryz.prog 82 ti82 := ⟨Tryz.underlying82, ⟨Tryz.t82, _, info_of Tryz.type82, rfl, rfl, rfl, fun _ => rfl, rfl⟩⟩
def ti83 : TI := ⟨Go.TypeDesc.func #[57, 3, 3] #[82] false, 1, 8, .fnil⟩
theorem ti83_ok : TyOk Tryz.prog 83 ti83 := ⟨Tryz.underlying83, ⟨Tryz.t83, _, info_of Tryz.type83, rfl, rfl, rfl, fun _ => rfl, rfl⟩⟩
def ti84 : TI := ⟨Go.TypeDesc.func #[3, 3, 3] #[4] false, 1, 8, .fnil⟩
theorem ti84_ok : TyOk Tryz.prog 84 ti84 := ⟨Tryz.underlying84, ⟨Tryz.t84, _, info_of Tryz.type84, rfl, rfl, rfl, fun _ => rfl, rfl⟩⟩
def ti85 : TI := ⟨Go.TypeDesc.func #[26, 74, 3, 3] #[3] false, 1, 8, .fnil⟩
theorem ti85_ok : TyOk Tryz.prog 85 ti85 := ⟨Tryz.underlying85, ⟨Tryz.t85, _, info_of Tryz.type85, rfl, rfl, rfl, fun _ => rfl, rfl⟩⟩
def ti86 : TI := ⟨Go.TypeDesc.func #[3] #[3] false, 1, 8, .fnil⟩
theorem ti86_ok : TyOk Tryz.prog 86 ti86 := ⟨Tryz.underlying86, ⟨Tryz.t86, _, info_of Tryz.type86, rfl, rfl, rfl, fun _ => rfl, rfl⟩⟩
def ti87 : TI := ⟨Go.TypeDesc.func #[119] #[] false, 1, 8, .fnil⟩
theorem ti87_ok : TyOk Tryz.prog 87 ti87 := ⟨Tryz.underlying87, ⟨Tryz.t87, _, info_of Tryz.type87, rfl, rfl, rfl, fun _ => rfl, rfl⟩⟩
def ti88 : TI := ⟨Go.TypeDesc.func #[119] #[] false, 1, 8, .fnil⟩
theorem ti88_ok : TyOk Tryz.prog 88 ti88 := ⟨Tryz.underlying88, ⟨Tryz.t88, _, info_of Tryz.type88, rfl, rfl, rfl, fun _ => rfl, rfl⟩⟩
def ti89 : TI := ⟨Go.TypeDesc.func #[90] #[88] false, 1, 8, .fnil⟩
theorem ti89_ok : TyOk Tryz.prog 89 ti89 := ⟨Tryz.underlying89, ⟨Tryz.t89, _, info_of Tryz.type89, rfl, rfl, rfl, fun _ => rfl, rfl⟩⟩
def ti90 : TI := ⟨Go.TypeDesc.int Go.IntKind.u64, 1, 8, .int .u64 0⟩
theorem ti90_ok : TyOk Tryz.prog 90 ti90 := ⟨Tryz.underlying90, ⟨Tryz.t90, _, info_of Tryz.type90, rfl, rfl, rfl, fun _ => rfl, rfl⟩⟩
def ti91 : TI := ⟨Go.TypeDesc.func #[] #[90] false, 1, 8, .fnil⟩
theorem ti91_ok : TyOk Tryz.prog 91 ti91 := ⟨Tryz.underlying91, ⟨Tryz.t91, _, info_of Tryz.type91, rfl, rfl, rfl, fun _ => rfl, rfl⟩⟩
def ti92 : TI := ⟨Go.TypeDesc.func #[26] #[67] false, 1, 8, .fnil⟩
theorem ti92_ok : TyOk Tryz.prog 92 ti92 := ⟨Tryz.underlying92, ⟨Tryz.t92, _, info_of Tryz.type92, rfl, rfl, rfl, fun _ => rfl, rfl⟩⟩
def ti93 : TI := ⟨Go.TypeDesc.func #[26, 67, 3, 3] #[3] false, 1, 8, .fnil⟩
theorem ti93_ok : TyOk Tryz.prog 93 ti93 := ⟨Tryz.underlying93, ⟨Tryz.t93, _, info_of Tryz.type93, rfl, rfl, rfl, fun _ => rfl, rfl⟩⟩
def ti94 : TI := ⟨Go.TypeDesc.func #[30] #[4] false, 1, 8, .fnil⟩
theorem ti94_ok : TyOk Tryz.prog 94 ti94 := ⟨Tryz.underlying94, ⟨Tryz.t94, _, info_of Tryz.type94, rfl, rfl, rfl, fun _ => rfl, rfl⟩⟩
def ti95 : TI := ⟨Go.TypeDesc.struct #[{ name := "Place", type := 3, offset := 0, embedded := false, tag := "", pkgPath := "", byteOffset := 0 }, { name := "Minute", type := 3, offset := 1, embedded := false, tag := "", pkgPath := "", byteOffset := 8 }, { name := "Depth", type := 30, offset := 2, embedded := false, tag := "", pkgPath := "", byteOffset := 16 }], 4, 32, .agg [.int .i64 0, .int .i64 0, .int .i64 0, .int .i64 0]⟩
theorem ti95_ok : TyOk Tryz.prog 95 ti95 := ⟨Tryz.underlying95, ⟨Tryz.t95, _, info_of Tryz.type95, rfl, rfl, rfl, fun _ => rfl, rfl⟩⟩
def ti96 : TI := ⟨Go.TypeDesc.struct #[{ name := "Place", type := 3, offset := 0, embedded := false, tag := "", pkgPath := "", byteOffset := 0 }, { name := "Minute", type := 3, offset := 1, embedded := false, tag := "", pkgPath := "", byteOffset := 8 }, { name := "Depth", type := 30, offset := 2, embedded := false, tag := "", pkgPath := "", byteOffset := 16 }], 4, 32, .agg [.int .i64 0, .int .i64 0, .int .i64 0, .int .i64 0]⟩
theorem ti96_ok : TyOk Tryz.prog 96 ti96 := ⟨Tryz.underlying96, ⟨Tryz.t96, _, info_of Tryz.type96, rfl, rfl, rfl, fun _ => rfl, rfl⟩⟩
def ti97 : TI := ⟨Go.TypeDesc.func #[3, 3, 3] #[43] false, 1, 8, .fnil⟩
theorem ti97_ok : TyOk Tryz.prog 97 ti97 := ⟨Tryz.underlying97, ⟨Tryz.t97, _, info_of Tryz.type97, rfl, rfl, rfl, fun _ => rfl, rfl⟩⟩
def ti98 : TI := ⟨Go.TypeDesc.func #[3, 3, 3, 3] #[96] false, 1, 8, .fnil⟩
theorem ti98_ok : TyOk Tryz.prog 98 ti98 := ⟨Tryz.underlying98, ⟨Tryz.t98, _, info_of Tryz.type98, rfl, rfl, rfl, fun _ => rfl, rfl⟩⟩
def ti99 : TI := ⟨Go.TypeDesc.func #[] #[3] false, 1, 8, .fnil⟩
theorem ti99_ok : TyOk Tryz.prog 99 ti99 := ⟨Tryz.underlying99, ⟨Tryz.t99, _, info_of Tryz.type99, rfl, rfl, rfl, fun _ => rfl, rfl⟩⟩
def ti100 : TI := ⟨Go.TypeDesc.func #[24, 90] #[24] false, 1, 8, .fnil⟩
theorem ti100_ok : TyOk Tryz.prog 100 ti100 := ⟨Tryz.underlying100, ⟨Tryz.t100, _, info_of Tryz.type100, rfl, rfl, rfl, fun _ => rfl, rfl⟩⟩
def ti101 : TI := ⟨Go.TypeDesc.func #[90] #[4] false, 1, 8, .fnil⟩
theorem ti101_ok : TyOk Tryz.prog 101 ti101 := ⟨Tryz.underlying101, ⟨Tryz.t101, _, info_of Tryz.type101, rfl, rfl, rfl, fun _ => rfl, rfl⟩⟩
def ti102 : TI := ⟨Go.TypeDesc.func #[4, 31] #[] false, 1, 8, .fnil⟩
theorem ti102_ok : TyOk Tryz.prog 102 ti102 := ⟨Tryz.underlying102, ⟨Tryz.t102, _, info_of Tryz.type102, rfl, rfl, rfl, fun _ => rfl, rfl⟩⟩
def ti103 : TI := ⟨Go.TypeDesc.func #[90] #[3] false, 1, 8, .fnil⟩
theorem ti103_ok : TyOk Tryz.prog 103 ti103 := ⟨Tryz.underlying103, ⟨Tryz.t103, _, info_of Tryz.type103, rfl, rfl, rfl, fun _ => rfl, rfl⟩⟩
def ti104 : TI := ⟨Go.TypeDesc.struct #[{ name := "e", type := 31, offset := 0, embedded := false, tag := "", pkgPath := "dipworks/tide", byteOffset := 0 }], 1, 8, .agg [.int .i64 0]⟩
theorem ti104_ok : TyOk Tryz.prog 104 ti104 := ⟨Tryz.underlying104, ⟨Tryz.t104, _, info_of Tryz.type104, rfl, rfl, rfl, fun _ => rfl, rfl⟩⟩
def ti105 : TI := ⟨Go.TypeDesc.struct #[{ name := "e", type := 31, offset := 0, embedded := false, tag := "", pkgPath := "dipworks/tide", byteOffset := 0 }], 1, 8, .agg [.int .i64 0]⟩
theorem ti105_ok : TyOk Tryz.prog 105 ti105 := ⟨Tryz.underlying105, ⟨Tryz.t105, _, info_of Tryz.type105, rfl, rfl, rfl, fun _ => rfl, rfl⟩⟩
def ti107 : TI := ⟨Go.TypeDesc.struct #[{ name := "Span", type := 30, offset := 0, embedded := true, tag := "", pkgPath := "", byteOffset := 0 }, { name := "some", type := 4, offset := 2, embedded := false, tag := "", pkgPath := "dipworks/tide", byteOffset := 16 }, { name := "of", type := 66, offset := 3, embedded := false, tag := "", pkgPath := "dipworks/tide", byteOffset := 24 }], 4, 32, .agg [.int .i64 0, .int .i64 0, .bool false, .fnil]⟩
theorem ti107_ok : TyOk Tryz.prog 107 ti107 := ⟨Tryz.underlying107, ⟨Tryz.t107, _, info_of Tryz.type107, rfl, rfl, rfl, fun _ => rfl, rfl⟩⟩
def ti108 : TI := ⟨Go.TypeDesc.struct #[{ name := "Span", type := 30, offset := 0, embedded := true, tag := "", pkgPath := "", byteOffset := 0 }, { name := "some", type := 4, offset := 2, embedded := false, tag := "", pkgPath := "dipworks/tide", byteOffset := 16 }, { name := "of", type := 66, offset := 3, embedded := false, tag := "", pkgPath := "dipworks/tide", byteOffset := 24 }], 4, 32, .agg [.int .i64 0, .int .i64 0, .bool false, .fnil]⟩
theorem ti108_ok : TyOk Tryz.prog 108 ti108 := ⟨Tryz.underlying108, ⟨Tryz.t108, _, info_of Tryz.type108, rfl, rfl, rfl, fun _ => rfl, rfl⟩⟩
def ti109 : TI := ⟨Go.TypeDesc.func #[64] #[] false, 1, 8, .fnil⟩
theorem ti109_ok : TyOk Tryz.prog 109 ti109 := ⟨Tryz.underlying109, ⟨Tryz.t109, _, info_of Tryz.type109, rfl, rfl, rfl, fun _ => rfl, rfl⟩⟩
def ti110 : TI := ⟨Go.TypeDesc.func #[88] #[57] false, 1, 8, .fnil⟩
theorem ti110_ok : TyOk Tryz.prog 110 ti110 := ⟨Tryz.underlying110, ⟨Tryz.t110, _, info_of Tryz.type110, rfl, rfl, rfl, fun _ => rfl, rfl⟩⟩
def ti111 : TI := ⟨Go.TypeDesc.struct #[{ name := "heights", type := 60, offset := 0, embedded := true, tag := "", pkgPath := "dipworks/tide", byteOffset := 0 }, { name := "minute", type := 3, offset := 4, embedded := false, tag := "", pkgPath := "dipworks/tide", byteOffset := 32 }], 5, 40, .agg [.int .i64 0, .int .i64 0, .int .i64 0, .int .i64 0, .int .i64 0]⟩
theorem ti111_ok : TyOk Tryz.prog 111 ti111 := ⟨Tryz.underlying111, ⟨Tryz.t111, _, info_of Tryz.type111, rfl, rfl, rfl, fun _ => rfl, rfl⟩⟩
def ti112 : TI := ⟨Go.TypeDesc.struct #[{ name := "heights", type := 60, offset := 0, embedded := true, tag := "", pkgPath := "dipworks/tide", byteOffset := 0 }, { name := "minute", type := 3, offset := 4, embedded := false, tag := "", pkgPath := "dipworks/tide", byteOffset := 32 }], 5, 40, .agg [.int .i64 0, .int .i64 0, .int .i64 0, .int .i64 0, .int .i64 0]⟩
theorem ti112_ok : TyOk Tryz.prog 112 ti112 := ⟨Tryz.underlying112, ⟨Tryz.t112, _, info_of Tryz.type112, rfl, rfl, rfl, fun _ => rfl, rfl⟩⟩
def ti114 : TI := ⟨Go.TypeDesc.func #[22, 115] #[3] false, 1, 8, .fnil⟩
theorem ti114_ok : TyOk Tryz.prog 114 ti114 := ⟨Tryz.underlying114, ⟨Tryz.t114, _, info_of Tryz.type114, rfl, rfl, rfl, fun _ => rfl, rfl⟩⟩
def ti115 : TI := ⟨Go.TypeDesc.func #[43] #[4] false, 1, 8, .fnil⟩
theorem ti115_ok : TyOk Tryz.prog 115 ti115 := ⟨Tryz.underlying115, ⟨Tryz.t115, _, info_of Tryz.type115, rfl, rfl, rfl, fun _ => rfl, rfl⟩⟩
def ti116 : TI := ⟨Go.TypeDesc.array 7 3, 7, 56, .agg [.int .i64 0, .int .i64 0, .int .i64 0, .int .i64 0, .int .i64 0, .int .i64 0, .int .i64 0]⟩
theorem ti116_ok : TyOk Tryz.prog 116 ti116 := ⟨Tryz.underlying116, ⟨Tryz.t116, _, info_of Tryz.type116, rfl, rfl, rfl, fun _ => rfl, rfl⟩⟩
def ti117 : TI := ⟨Go.TypeDesc.func #[61] #[3] false, 1, 8, .fnil⟩
theorem ti117_ok : TyOk Tryz.prog 117 ti117 := ⟨Tryz.underlying117, ⟨Tryz.t117, _, info_of Tryz.type117, rfl, rfl, rfl, fun _ => rfl, rfl⟩⟩
def ti118 : TI := ⟨Go.TypeDesc.func #[64, 3] #[3] false, 1, 8, .fnil⟩
theorem ti118_ok : TyOk Tryz.prog 118 ti118 := ⟨Tryz.underlying118, ⟨Tryz.t118, _, info_of Tryz.type118, rfl, rfl, rfl, fun _ => rfl, rfl⟩⟩
def ti119 : TI := ⟨Go.TypeDesc.func #[64] #[4] false, 1, 8, .fnil⟩
theorem ti119_ok : TyOk Tryz.prog 119 ti119 := ⟨Tryz.underlying119, ⟨Tryz.t119, _, info_of Tryz.type119, rfl, rfl, rfl, fun _ => rfl, rfl⟩⟩
def ti120 : TI := ⟨Go.TypeDesc.func #[60, 3] #[4] false, 1, 8, .fnil⟩
theorem ti120_ok : TyOk Tryz.prog 120 ti120 := ⟨Tryz.underlying120, ⟨Tryz.t120, _, info_of Tryz.type120, rfl, rfl, rfl, fun _ => rfl, rfl⟩⟩
def ti121 : TI := ⟨Go.TypeDesc.func #[3, 3] #[60] false, 1, 8, .fnil⟩
theorem ti121_ok : TyOk Tryz.prog 121 ti121 := ⟨Tryz.underlying121, ⟨Tryz.t121, _, info_of Tryz.type121, rfl, rfl, rfl, fun _ => rfl, rfl⟩⟩
def ti122 : TI := ⟨Go.TypeDesc.func #[60, 3, 90] #[61] false, 1, 8, .fnil⟩
theorem ti122_ok : TyOk Tryz.prog 122 ti122 := ⟨Tryz.underlying122, ⟨Tryz.t122, _, info_of Tryz.type122, rfl, rfl, rfl, fun _ => rfl, rfl⟩⟩
def ti123 : TI := ⟨Go.TypeDesc.slice 61, 1, 24, .snil⟩
theorem ti123_ok : TyOk Tryz.prog 123 ti123 := ⟨Tryz.underlying123, ⟨Tryz.t123, _, info_of Tryz.type123, rfl, rfl, rfl, fun _ => rfl, rfl⟩⟩
def ti124 : TI := ⟨Go.TypeDesc.func #[72] #[3] true, 1, 8, .fnil⟩
theorem ti124_ok : TyOk Tryz.prog 124 ti124 := ⟨Tryz.underlying124, ⟨Tryz.t124, _, info_of Tryz.type124, rfl, rfl, rfl, fun _ => rfl, rfl⟩⟩
def ti125 : TI := ⟨Go.TypeDesc.func #[26, 3] #[67] false, 1, 8, .fnil⟩
theorem ti125_ok : TyOk Tryz.prog 125 ti125 := ⟨Tryz.underlying125, ⟨Tryz.t125, _, info_of Tryz.type125, rfl, rfl, rfl, fun _ => rfl, rfl⟩⟩
def ti126 : TI := ⟨Go.TypeDesc.func #[26] #[3] false, 1, 8, .fnil⟩
theorem ti126_ok : TyOk Tryz.prog 126 ti126 := ⟨Tryz.underlying126, ⟨Tryz.t126, _, info_of Tryz.type126, rfl, rfl, rfl, fun _ => rfl, rfl⟩⟩
def ti127 : TI := ⟨Go.TypeDesc.func #[24, 128] #[24] false, 1, 8, .fnil⟩
theorem ti127_ok : TyOk Tryz.prog 127 ti127 := ⟨Tryz.underlying127, ⟨Tryz.t127, _, info_of Tryz.type127, rfl, rfl, rfl, fun _ => rfl, rfl⟩⟩
def ti128 : TI := ⟨Go.TypeDesc.func #[96] #[4] false, 1, 8, .fnil⟩
theorem ti128_ok : TyOk Tryz.prog 128 ti128 := ⟨Tryz.underlying128, ⟨Tryz.t128, _, info_of Tryz.type128, rfl, rfl, rfl, fun _ => rfl, rfl⟩⟩
def ti129 : TI := ⟨Go.TypeDesc.func #[130] #[3] false, 1, 8, .fnil⟩
theorem ti129_ok : TyOk Tryz.prog 129 ti129 := ⟨Tryz.underlying129, ⟨Tryz.t129, _, info_of Tryz.type129, rfl, rfl, rfl, fun _ => rfl, rfl⟩⟩
def ti130 : TI := ⟨Go.TypeDesc.int Go.IntKind.u32, 1, 4, .int .u32 0⟩
theorem ti130_ok : TyOk Tryz.prog 130 ti130 := ⟨Tryz.underlying130, ⟨Tryz.t130, _, info_of Tryz.type130, rfl, rfl, rfl, fun _ => rfl, rfl⟩⟩
def ti131 : TI := ⟨Go.TypeDesc.pointer 108, 1, 8, .pnil⟩
theorem ti131_ok : TyOk Tryz.prog 131 ti131 := ⟨Tryz.underlying131, ⟨Tryz.t131, _, info_of Tryz.type131, rfl, rfl, rfl, fun _ => rfl, rfl⟩⟩
def ti132 : TI := ⟨Go.TypeDesc.func #[57, 88] #[57] false, 1, 8, .fnil⟩
theorem ti132_ok : TyOk Tryz.prog 132 ti132 := ⟨Tryz.underlying132, ⟨Tryz.t132, _, info_of Tryz.type132, rfl, rfl, rfl, fun _ => rfl, rfl⟩⟩
def ti133 : TI := ⟨Go.TypeDesc.array 64 5, 64, 64, .agg [.int .u8 0, .int .u8 0, .int .u8 0, .int .u8 0, .int .u8 0, .int .u8 0, .int .u8 0, .int .u8 0, .int .u8 0, .int .u8 0, .int .u8 0, .int .u8 0, .int .u8 0, .int .u8 0, .int .u8 0, .int .u8 0, .int .u8 0, .int .u8 0, .int .u8 0, .int .u8 0, .int .u8 0, .int .u8 0, .int .u8 0, .int .u8 0, .int .u8 0, .int .u8 0, .int .u8 0, .int .u8 0, .int .u8 0, .int .u8 0, .int .u8 0, .int .u8 0, .int .u8 0, .int .u8 0, .int .u8 0, .int .u8 0, .int .u8 0, .int .u8 0, .int .u8 0, .int .u8 0, .int .u8 0, .int .u8 0, .int .u8 0, .int .u8 0, .int .u8 0, .int .u8 0, .int .u8 0, .int .u8 0, .int .u8 0, .int .u8 0, .int .u8 0, .int .u8 0, .int .u8 0, .int .u8 0, .int .u8 0, .int .u8 0, .int .u8 0, .int .u8 0, .int .u8 0, .int .u8 0, .int .u8 0, .int .u8 0, .int .u8 0, .int .u8 0]⟩
theorem ti133_ok : TyOk Tryz.prog 133 ti133 := ⟨Tryz.underlying133, ⟨Tryz.t133, _, info_of Tryz.type133, rfl, rfl, rfl, fun _ => rfl, rfl⟩⟩
def ti134 : TI := ⟨Go.TypeDesc.struct #[], 0, 0, .agg []⟩
theorem ti134_ok : TyOk Tryz.prog 134 ti134 := ⟨Tryz.underlying134, ⟨Tryz.t134, _, info_of Tryz.type134, rfl, rfl, rfl, fun _ => rfl, rfl⟩⟩
def ti135 : TI := ⟨Go.TypeDesc.struct #[], 0, 0, .agg []⟩
theorem ti135_ok : TyOk Tryz.prog 135 ti135 := ⟨Tryz.underlying135, ⟨Tryz.t135, _, info_of Tryz.type135, rfl, rfl, rfl, fun _ => rfl, rfl⟩⟩
def ti136 : TI := ⟨Go.TypeDesc.interface #[("dipworks/tide.fits", 140)], 1, 16, .inil⟩
theorem ti136_ok : TyOk Tryz.prog 136 ti136 := ⟨Tryz.underlying136, ⟨Tryz.t136, _, info_of Tryz.type136, rfl, rfl, rfl, fun _ => rfl, rfl⟩⟩
def ti137 : TI := ⟨Go.TypeDesc.interface #[("dipworks/tide.fits", 140)], 1, 16, .inil⟩
theorem ti137_ok : TyOk Tryz.prog 137 ti137 := ⟨Tryz.underlying137, ⟨Tryz.t137, _, info_of Tryz.type137, rfl, rfl, rfl, fun _ => rfl, rfl⟩⟩
def ti138 : TI := ⟨Go.TypeDesc.struct #[{ name := "nothing", type := 135, offset := 0, embedded := true, tag := "", pkgPath := "dipworks/tide", byteOffset := 0 }, { name := "depth", type := 30, offset := 0, embedded := false, tag := "", pkgPath := "dipworks/tide", byteOffset := 0 }], 2, 16, .agg [.int .i64 0, .int .i64 0]⟩
theorem ti138_ok : TyOk Tryz.prog 138 ti138 := ⟨Tryz.underlying138, ⟨Tryz.t138, _, info_of Tryz.type138, rfl, rfl, rfl, fun _ => rfl, rfl⟩⟩
def ti139 : TI := ⟨Go.TypeDesc.struct #[{ name := "nothing", type := 135, offset := 0, embedded := true, tag := "", pkgPath := "dipworks/tide", byteOffset := 0 }, { name := "depth", type := 30, offset := 0, embedded := false, tag := "", pkgPath := "dipworks/tide", byteOffset := 0 }], 2, 16, .agg [.int .i64 0, .int .i64 0]⟩
theorem ti139_ok : TyOk Tryz.prog 139 ti139 := ⟨Tryz.underlying139, ⟨Tryz.t139, _, info_of Tryz.type139, rfl, rfl, rfl, fun _ => rfl, rfl⟩⟩
def ti140 : TI := ⟨Go.TypeDesc.func #[3, 3] #[4] false, 1, 8, .fnil⟩
theorem ti140_ok : TyOk Tryz.prog 140 ti140 := ⟨Tryz.underlying140, ⟨Tryz.t140, _, info_of Tryz.type140, rfl, rfl, rfl, fun _ => rfl, rfl⟩⟩
def ti141 : TI := ⟨Go.TypeDesc.slice 72, 1, 24, .snil⟩
theorem ti141_ok : TyOk Tryz.prog 141 ti141 := ⟨Tryz.underlying141, ⟨Tryz.t141, _, info_of Tryz.type141, rfl, rfl, rfl, fun _ => rfl, rfl⟩⟩
def ti142 : TI := ⟨Go.TypeDesc.func #[23, 72, 141] #[141] false, 1, 8, .fnil⟩
theorem ti142_ok : TyOk Tryz.prog 142 ti142 := ⟨Tryz.underlying142, ⟨Tryz.t142, _, info_of Tryz.type142, rfl, rfl, rfl, fun _ => rfl, rfl⟩⟩
def ti143 : TI := ⟨Go.TypeDesc.func #[26, 74, 3] #[4] false, 1, 8, .fnil⟩
theorem ti143_ok : TyOk Tryz.prog 143 ti143 := ⟨Tryz.underlying143, ⟨Tryz.t143, _, info_of Tryz.type143, rfl, rfl, rfl, fun _ => rfl, rfl⟩⟩
def ti144 : TI := ⟨Go.TypeDesc.func #[24, 128] #[3] false, 1, 8, .fnil⟩
theorem ti144_ok : TyOk Tryz.prog 144 ti144 := ⟨Tryz.underlying144, ⟨Tryz.t144, _, info_of Tryz.type144, rfl, rfl, rfl, fun _ => rfl, rfl⟩⟩
def ti145 : TI := ⟨Go.TypeDesc.func #[] #[9] false, 1, 8, .fnil⟩
theorem ti145_ok : TyOk Tryz.prog 145 ti145 := ⟨Tryz.underlying145, ⟨Tryz.t145, _, info_of Tryz.type145, rfl, rfl, rfl, fun _ => rfl, rfl⟩⟩
def ti146 : TI := ⟨Go.TypeDesc.struct #[{ name := "_interface", type := 17, offset := 0, embedded := false, tag := "", pkgPath := "runtime", byteOffset := 0 }, { name := "concrete", type := 17, offset := 1, embedded := false, tag := "", pkgPath := "runtime", byteOffset := 8 }, { name := "asserted", type := 17, offset := 2, embedded := false, tag := "", pkgPath := "runtime", byteOffset := 16 }, { name := "missingMethod", type := 9, offset := 3, embedded := false, tag := "", pkgPath := "runtime", byteOffset := 24 }], 4, 40, .agg [.pnil, .pnil, .pnil, .str ({ data := #[] })]⟩
theorem ti146_ok : TyOk Tryz.prog 146 ti146 := ⟨Tryz.underlying146, ⟨Tryz.t146, _, info_of Tryz.type146, rfl, rfl, rfl, fun _ => rfl, rfl⟩⟩
def ti147 : TI := ⟨Go.TypeDesc.struct #[{ name := "_interface", type := 17, offset := 0, embedded := false, tag := "", pkgPath := "runtime", byteOffset := 0 }, { name := "concrete", type := 17, offset := 1, embedded := false, tag := "", pkgPath := "runtime", byteOffset := 8 }, { name := "asserted", type := 17, offset := 2, embedded := false, tag := "", pkgPath := "runtime", byteOffset := 16 }, { name := "missingMethod", type := 9, offset := 3, embedded := false, tag := "", pkgPath := "runtime", byteOffset := 24 }], 4, 40, .agg [.pnil, .pnil, .pnil, .str ({ data := #[] })]⟩
theorem ti147_ok : TyOk Tryz.prog 147 ti147 := ⟨Tryz.underlying147, ⟨Tryz.t147, _, info_of Tryz.type147, rfl, rfl, rfl, fun _ => rfl, rfl⟩⟩
def ti148 : TI := ⟨Go.TypeDesc.array 0 16, 0, 0, .agg []⟩
theorem ti148_ok : TyOk Tryz.prog 148 ti148 := ⟨Tryz.underlying148, ⟨Tryz.t148, _, info_of Tryz.type148, rfl, rfl, rfl, fun _ => rfl, rfl⟩⟩
def ti149 : TI := ⟨Go.TypeDesc.struct #[{ name := "_", type := 148, offset := 0, embedded := false, tag := "", pkgPath := "runtime", byteOffset := 0 }], 0, 0, .agg []⟩
theorem ti149_ok : TyOk Tryz.prog 149 ti149 := ⟨Tryz.underlying149, ⟨Tryz.t149, _, info_of Tryz.type149, rfl, rfl, rfl, fun _ => rfl, rfl⟩⟩
def ti150 : TI := ⟨Go.TypeDesc.struct #[{ name := "_", type := 148, offset := 0, embedded := false, tag := "", pkgPath := "runtime", byteOffset := 0 }], 0, 0, .agg []⟩
theorem ti150_ok : TyOk Tryz.prog 150 ti150 := ⟨Tryz.underlying150, ⟨Tryz.t150, _, info_of Tryz.type150, rfl, rfl, rfl, fun _ => rfl, rfl⟩⟩
def ti151 : TI := ⟨Go.TypeDesc.int Go.IntKind.u8, 1, 1, .int .u8 0⟩
theorem ti151_ok : TyOk Tryz.prog 151 ti151 := ⟨Tryz.underlying151, ⟨Tryz.t151, _, info_of Tryz.type151, rfl, rfl, rfl, fun _ => rfl, rfl⟩⟩
def ti152 : TI := ⟨Go.TypeDesc.int Go.IntKind.u8, 1, 1, .int .u8 0⟩
theorem ti152_ok : TyOk Tryz.prog 152 ti152 := ⟨Tryz.underlying152, ⟨Tryz.t152, _, info_of Tryz.type152, rfl, rfl, rfl, fun _ => rfl, rfl⟩⟩
def ti153 : TI := ⟨Go.TypeDesc.func #[159, 159] #[4] false, 1, 8, .fnil⟩
theorem ti153_ok : TyOk Tryz.prog 153 ti153 := ⟨Tryz.underlying153, ⟨Tryz.t153, _, info_of Tryz.type153, rfl, rfl, rfl, fun _ => rfl, rfl⟩⟩
def ti154 : TI := ⟨Go.TypeDesc.pointer 5, 1, 8, .pnil⟩
theorem ti154_ok : TyOk Tryz.prog 154 ti154 := ⟨Tryz.underlying154, ⟨Tryz.t154, _, info_of Tryz.type154, rfl, rfl, rfl, fun _ => rfl, rfl⟩⟩
def ti155 : TI := ⟨Go.TypeDesc.int Go.IntKind.i32, 1, 4, .int .i32 0⟩
theorem ti155_ok : TyOk Tryz.prog 155 ti155 := ⟨Tryz.underlying155, ⟨Tryz.t155, _, info_of Tryz.type155, rfl, rfl, rfl, fun _ => rfl, rfl⟩⟩
def ti156 : TI := ⟨Go.TypeDesc.int Go.IntKind.i32, 1, 4, .int .i32 0⟩
theorem ti156_ok : TyOk Tryz.prog 156 ti156 := ⟨Tryz.underlying156, ⟨Tryz.t156, _, info_of Tryz.type156, rfl, rfl, rfl, fun _ => rfl, rfl⟩⟩
def ti157 : TI := ⟨Go.TypeDesc.struct #[{ name := "Size_", type := 12, offset := 0, embedded := false, tag := "", pkgPath := "", byteOffset := 0 }, { name := "PtrBytes", type := 12, offset := 1, embedded := false, tag := "", pkgPath := "", byteOffset := 8 }, { name := "Hash", type := 130, offset := 2, embedded := false, tag := "", pkgPath := "", byteOffset := 16 }, { name := "TFlag", type := 151, offset := 3, embedded := false, tag := "", pkgPath := "", byteOffset := 20 }, { name := "Align_", type := 5, offset := 4, embedded := false, tag := "", pkgPath := "", byteOffset := 21 }, { name := "FieldAlign_", type := 5, offset := 5, embedded := false, tag := "", pkgPath := "", byteOffset := 22 }, { name := "Kind_", type := 152, offset := 6, embedded := false, tag := "", pkgPath := "", byteOffset := 23 }, { name := "Equal", type := 153, offset := 7, embedded := false, tag := "", pkgPath := "", byteOffset := 24 }, { name := "GCData", type := 154, offset := 8, embedded := false, tag := "", pkgPath := "", byteOffset := 32 }, { name := "Str", type := 155, offset := 9, embedded := false, tag := "", pkgPath := "", byteOffset := 40 }, { name := "PtrToThis", type := 156, offset := 10, embedded := false, tag := "", pkgPath := "", byteOffset := 44 }], 11, 48, .agg [.int .u64 0, .int .u64 0, .int .u32 0, .int .u8 0, .int .u8 0, .int .u8 0, .int .u8 0, .fnil, .pnil, .int .i32 0, .int .i32 0]⟩
theorem ti157_ok : TyOk Tryz.prog 157 ti157 := ⟨Tryz.underlying157, ⟨Tryz.t157, _, info_of Tryz.type157, rfl, rfl, rfl, fun _ => rfl, rfl⟩⟩
def ti158 : TI := ⟨Go.TypeDesc.struct #[{ name := "Size_", type := 12, offset := 0, embedded := false, tag := "", pkgPath := "", byteOffset := 0 }, { name := "PtrBytes", type := 12, offset := 1, embedded := false, tag := "", pkgPath := "", byteOffset := 8 }, { name := "Hash", type := 130, offset := 2, embedded := false, tag := "", pkgPath := "", byteOffset := 16 }, { name := "TFlag", type := 151, offset := 3, embedded := false, tag := "", pkgPath := "", byteOffset := 20 }, { name := "Align_", type := 5, offset := 4, embedded := false, tag := "", pkgPath := "", byteOffset := 21 }, { name := "FieldAlign_", type := 5, offset := 5, embedded := false, tag := "", pkgPath := "", byteOffset := 22 }, { name := "Kind_", type := 152, offset := 6, embedded := false, tag := "", pkgPath := "", byteOffset := 23 }, { name := "Equal", type := 153, offset := 7, embedded := false, tag := "", pkgPath := "", byteOffset := 24 }, { name := "GCData", type := 154, offset := 8, embedded := false, tag := "", pkgPath := "", byteOffset := 32 }, { name := "Str", type := 155, offset := 9, embedded := false, tag := "", pkgPath := "", byteOffset := 40 }, { name := "PtrToThis", type := 156, offset := 10, embedded := false, tag := "", pkgPath := "", byteOffset := 44 }], 11, 48, .agg [.int .u64 0, .int .u64 0, .int .u32 0, .int .u8 0, .int .u8 0, .int .u8 0, .int .u8 0, .fnil, .pnil, .int .i32 0, .int .i32 0]⟩
theorem ti158_ok : TyOk Tryz.prog 158 ti158 := ⟨Tryz.underlying158, ⟨Tryz.t158, _, info_of Tryz.type158, rfl, rfl, rfl, fun _ => rfl, rfl⟩⟩
def ti159 : TI := ⟨Go.TypeDesc.unsafePointer, 1, 8, .pnil⟩
theorem ti159_ok : TyOk Tryz.prog 159 ti159 := ⟨Tryz.underlying159, ⟨Tryz.t159, _, info_of Tryz.type159, rfl, rfl, rfl, fun _ => rfl, rfl⟩⟩
def tyL : List (Option TI) := [none, some ti1, some ti2, some ti3, some ti4, some ti5, some ti6, some ti7, some ti8, some ti9, some ti10, some ti11, some ti12, some ti13, some ti14, some ti15, some ti16, some ti17, some ti18, some ti19, some ti20, some ti21, some ti22, some ti23, some ti24, some ti25, some ti26, some ti27, some ti28, some ti29, some ti30, some ti31, none, some ti33, some ti34, none, some ti36, none, some ti38, some ti39, some ti40, some ti41, some ti42, some ti43, some ti44, none, some ti46, some ti47, some ti48, some ti49, some ti50, some ti51, some ti52, some ti53, some ti54, some ti55, some ti56, some ti57, some ti58, some ti59, some ti60, some ti61, some ti62, some ti63, some ti64, some ti65, some ti66, some ti67, none, some ti69, some ti70, some ti71, some ti72, some ti73, some ti74, some ti75, some ti76, none, some ti78, some ti79, some ti80, some ti81, some ti82, some ti83, some ti84, some ti85, some ti86, some ti87, some ti88, some ti89, some ti90, some ti91, some ti92, some ti93, some ti94, some ti95, some ti96, some ti97, some ti98, some ti99, some ti100, some ti101, some ti102, some ti103, some ti104, some ti105, none, some ti107, some ti108, some ti109, some ti110, some ti111, some ti112, none, some ti114, some ti115, some ti116, some ti117, some ti118, some ti119, some ti120, some ti121, some ti122, some ti123, some ti124, some ti125, some ti126, some ti127, some ti128, some ti129, some ti130, some ti131, some ti132, some ti133, some ti134, some ti135, some ti136, some ti137, some ti138, some ti139, some ti140, some ti141, some ti142, some ti143, some ti144, some ti145, some ti146, some ti147, some ti148, some ti149, some ti150, some ti151, some ti152, some ti153, some ti154, some ti155, some ti156, some ti157, some ti158, some ti159]
def fnL : List (Option Unit) := [none, none, some (), some (), some (), some (), some (), some (), some (), some (), some (), some (), some (), some (), some (), some (), some (), some (), some (), some (), some (), some (), some (), some (), some (), some (), some (), some (), some (), some (), some (), some (), some (), some (), some (), some (), some (), some (), some (), some (), some (), some (), some (), some (), some (), some (), some (), some (), some (), some (), some (), some (), some (), some (), some (), some (), some (), some (), some (), some (), some (), some (), some (), some (), some (), some (), some (), some (), some (), some (), some (), some (), some (), some (), some (), some (), some (), some (), some (), some (), some (), some (), some (), some (), some (), some (), some (), some (), some (), some (), some (), some (), some (), some (), some (), some (), some (), some (), some (), some (), some (), some (), some (), some (), some (), some (), none, none, none, none, none, none, none, none, none, none, none, none, none, none, none, some (), some (), none, none, none, none, none, some ()]
theorem cT {P : Program} {k : Nat} {i : TI} {xs : List (Option TI)} (h : TyOk P k i) (hx : AllTy P (k + 1) xs) : AllTy P k (some i :: xs) := ⟨fun _ e => Option.some.inj e ▸ h, hx⟩
theorem cN {P : Program} {k : Nat} {xs : List (Option TI)} (hx : AllTy P (k + 1) xs) : AllTy P k (none :: xs) := ⟨fun _ e => (nomatch e), hx⟩
theorem dT {P : Program} {k : Nat} {f : Func} {xs : List (Option Unit)} (h : P.funcs[k]? = some f) (hb : f.body.isSome = true) (hn : (f.name == "runtime.NumGoroutine") = false) (hx : AllFn P (k + 1) xs) : AllFn P k (some () :: xs) := ⟨fun _ => ⟨f, h, hb, hn⟩, hx⟩
theorem dN {P : Program} {k : Nat} {xs : List (Option Unit)} (hx : AllFn P (k + 1) xs) : AllFn P k (none :: xs) := ⟨fun e => (nomatch e), hx⟩

theorem tyL_ok : AllTy Tryz.prog 0 tyL := cN (cT ti1_ok (cT ti2_ok (cT ti3_ok (cT ti4_ok (cT ti5_ok (cT ti6_ok (cT ti7_ok (cT ti8_ok (cT ti9_ok (cT ti10_ok (cT ti11_ok (cT ti12_ok (cT ti13_ok (cT ti14_ok (cT ti15_ok (cT ti16_ok (cT ti17_ok (cT ti18_ok (cT ti19_ok (cT ti20_ok (cT ti21_ok (cT ti22_ok (cT ti23_ok (cT ti24_ok (cT ti25_ok (cT ti26_ok (cT ti27_ok (cT ti28_ok (cT ti29_ok (cT ti30_ok (cT ti31_ok (cN (cT ti33_ok (cT ti34_ok (cN (cT ti36_ok (cN (cT ti38_ok (cT ti39_ok (cT ti40_ok (cT ti41_ok (cT ti42_ok (cT ti43_ok (cT ti44_ok (cN (cT ti46_ok (cT ti47_ok (cT ti48_ok (cT ti49_ok (cT ti50_ok (cT ti51_ok (cT ti52_ok (cT ti53_ok (cT ti54_ok (cT ti55_ok (cT ti56_ok (cT ti57_ok (cT ti58_ok (cT ti59_ok (cT ti60_ok (cT ti61_ok (cT ti62_ok (cT ti63_ok (cT ti64_ok (cT ti65_ok (cT ti66_ok (cT ti67_ok (cN (cT ti69_ok (cT ti70_ok (cT ti71_ok (cT ti72_ok (cT ti73_ok (cT ti74_ok (cT ti75_ok (cT ti76_ok (cN (cT ti78_ok (cT ti79_ok (cT ti80_ok (cT ti81_ok (cT ti82_ok (cT ti83_ok (cT ti84_ok (cT ti85_ok (cT ti86_ok (cT ti87_ok (cT ti88_ok (cT ti89_ok (cT ti90_ok (cT ti91_ok (cT ti92_ok (cT ti93_ok (cT ti94_ok (cT ti95_ok (cT ti96_ok (cT ti97_ok (cT ti98_ok (cT ti99_ok (cT ti100_ok (cT ti101_ok (cT ti102_ok (cT ti103_ok (cT ti104_ok (cT ti105_ok (cN (cT ti107_ok (cT ti108_ok (cT ti109_ok (cT ti110_ok (cT ti111_ok (cT ti112_ok (cN (cT ti114_ok (cT ti115_ok (cT ti116_ok (cT ti117_ok (cT ti118_ok (cT ti119_ok (cT ti120_ok (cT ti121_ok (cT ti122_ok (cT ti123_ok (cT ti124_ok (cT ti125_ok (cT ti126_ok (cT ti127_ok (cT ti128_ok (cT ti129_ok (cT ti130_ok (cT ti131_ok (cT ti132_ok (cT ti133_ok (cT ti134_ok (cT ti135_ok (cT ti136_ok (cT ti137_ok (cT ti138_ok (cT ti139_ok (cT ti140_ok (cT ti141_ok (cT ti142_ok (cT ti143_ok (cT ti144_ok (cT ti145_ok (cT ti146_ok (cT ti147_ok (cT ti148_ok (cT ti149_ok (cT ti150_ok (cT ti151_ok (cT ti152_ok (cT ti153_ok (cT ti154_ok (cT ti155_ok (cT ti156_ok (cT ti157_ok (cT ti158_ok (cT ti159_ok (trivial))))))))))))))))))))))))))))))))))))))))))))))))))))))))))))))))))))))))))))))))))))))))))))))))))))))))))))))))))))))))))))))))))))))))))))))))))))))))))))))))
theorem fnL_ok : AllFn Tryz.prog 0 fnL := dN (dN (dT Tryz.func2 rfl (by decide) (dT Tryz.func3 rfl (by decide) (dT Tryz.func4 rfl (by decide) (dT Tryz.func5 rfl (by decide) (dT Tryz.func6 rfl (by decide) (dT Tryz.func7 rfl (by decide) (dT Tryz.func8 rfl (by decide) (dT Tryz.func9 rfl (by decide) (dT Tryz.func10 rfl (by decide) (dT Tryz.func11 rfl (by decide) (dT Tryz.func12 rfl (by decide) (dT Tryz.func13 rfl (by decide) (dT Tryz.func14 rfl (by decide) (dT Tryz.func15 rfl (by decide) (dT Tryz.func16 rfl (by decide) (dT Tryz.func17 rfl (by decide) (dT Tryz.func18 rfl (by decide) (dT Tryz.func19 rfl (by decide) (dT Tryz.func20 rfl (by decide) (dT Tryz.func21 rfl (by decide) (dT Tryz.func22 rfl (by decide) (dT Tryz.func23 rfl (by decide) (dT Tryz.func24 rfl (by decide) (dT Tryz.func25 rfl (by decide) (dT Tryz.func26 rfl (by decide) (dT Tryz.func27 rfl (by decide) (dT Tryz.func28 rfl (by decide) (dT Tryz.func29 rfl (by decide) (dT Tryz.func30 rfl (by decide) (dT Tryz.func31 rfl (by decide) (dT Tryz.func32 rfl (by decide) (dT Tryz.func33 rfl (by decide) (dT Tryz.func34 rfl (by decide) (dT Tryz.func35 rfl (by decide) (dT Tryz.func36 rfl (by decide) (dT Tryz.func37 rfl (by decide) (dT Tryz.func38 rfl (by decide) (dT Tryz.func39 rfl (by decide) (dT Tryz.func40 rfl (by decide) (dT Tryz.func41 rfl (by decide) (dT Tryz.func42 rfl (by decide) (dT Tryz.func43 rfl (by decide) (dT Tryz.func44 rfl (by decide) (dT Tryz.func45 rfl (by decide) (dT Tryz.func46 rfl (by decide) (dT Tryz.func47 rfl (by decide) (dT Tryz.func48 rfl (by decide) (dT Tryz.func49 rfl (by decide) (dT Tryz.func50 rfl (by decide) (dT Tryz.func51 rfl (by decide) (dT Tryz.func52 rfl (by decide) (dT Tryz.func53 rfl (by decide) (dT Tryz.func54 rfl (by decide) (dT Tryz.func55 rfl (by decide) (dT Tryz.func56 rfl (by decide) (dT Tryz.func57 rfl (by decide) (dT Tryz.func58 rfl (by decide) (dT Tryz.func59 rfl (by decide) (dT Tryz.func60 rfl (by decide) (dT Tryz.func61 rfl (by decide) (dT Tryz.func62 rfl (by decide) (dT Tryz.func63 rfl (by decide) (dT Tryz.func64 rfl (by decide) (dT Tryz.func65 rfl (by decide) (dT Tryz.func66 rfl (by decide) (dT Tryz.func67 rfl (by decide) (dT Tryz.func68 rfl (by decide) (dT Tryz.func69 rfl (by decide) (dT Tryz.func70 rfl (by decide) (dT Tryz.func71 rfl (by decide) (dT Tryz.func72 rfl (by decide) (dT Tryz.func73 rfl (by decide) (dT Tryz.func74 rfl (by decide) (dT Tryz.func75 rfl (by decide) (dT Tryz.func76 rfl (by decide) (dT Tryz.func77 rfl (by decide) (dT Tryz.func78 rfl (by decide) (dT Tryz.func79 rfl (by decide) (dT Tryz.func80 rfl (by decide) (dT Tryz.func81 rfl (by decide) (dT Tryz.func82 rfl (by decide) (dT Tryz.func83 rfl (by decide) (dT Tryz.func84 rfl (by decide) (dT Tryz.func85 rfl (by decide) (dT Tryz.func86 rfl (by decide) (dT Tryz.func87 rfl (by decide) (dT Tryz.func88 rfl (by decide) (dT Tryz.func89 rfl (by decide) (dT Tryz.func90 rfl (by decide) (dT Tryz.func91 rfl (by decide) (dT Tryz.func92 rfl (by decide) (dT Tryz.func93 rfl (by decide) (dT Tryz.func94 rfl (by decide) (dT Tryz.func95 rfl (by decide) (dT Tryz.func96 rfl (by decide) (dT Tryz.func97 rfl (by decide) (dT Tryz.func98 rfl (by decide) (dT Tryz.func99 rfl (by decide) (dT Tryz.func100 rfl (by decide) (dT Tryz.func101 rfl (by decide) (dT Tryz.func102 rfl (by decide) (dT Tryz.func103 rfl (by decide) (dT Tryz.func104 rfl (by decide) (dT Tryz.func105 rfl (by decide) (dN (dN (dN (dN (dN (dN (dN (dN (dN (dN (dN (dN (dN (dN (dN (dT Tryz.func121 rfl (by decide) (dT Tryz.func122 rfl (by decide) (dN (dN (dN (dN (dN (dT Tryz.func128 rfl (by decide) (trivial)))))))))))))))))))))))))))))))))))))))))))))))))))))))))))))))))))))))))))))))))))))))))))))))))))))))))))))))))))))))))))))))))

def E : Env where
  ty t := nth tyL t
  wrap := false
  fn k := match nth fnL k with
    | some _ => true
    | none => false
  meth t name := match Nat.beq t 135 with
    | true => if name = "dipworks/tide.fits" then some 121 else none
    | false => match Nat.beq t 139 with
      | true => if name = "dipworks/tide.fits" then some 122 else none
      | false => none
  memo t := match Nat.beq t 79 with
    | true => some 5
    | false => none
  ahead t name := match Nat.beq t 135 with
    | true => decide (name = "dipworks/tide.fits")
    | false => match Nat.beq t 139 with
      | true => decide (name = "dipworks/tide.fits")
      | false => false
  eqs t := match Nat.beq t 30 with
    | true => some 2
    | false => match Nat.beq t 43 with
      | true => some 3
      | false => match Nat.beq t 96 with
        | true => some 4
        | false => none
  cm t := Nat.beq t 82
def Ew : Env := { E with wrap := true }
theorem E_ok : E.ok Tryz.prog where
  ty t i h := by simpa using nth_ty (k := 0) tyL_ok h
  fn k h := by
    have h' : nth fnL k = some () := by
      unfold E at h
      cases hk : nth fnL k with
      | none => simp [hk] at h
      | some u => rfl
    simpa using nth_fn (k := 0) fnL_ok h'
  meth t n f h := by
    simp only [E] at h
    split at h
    · rename_i ht
      have ht : t = 135 := by simpa using ht
      split at h
      · rename_i hn
        simp only [Option.some.injEq] at h
        subst ht hn h
        exact ⟨rfl, meth155⟩
      · cases h
    · split at h
      · rename_i ht
        have ht : t = 139 := by simpa using ht
        split at h
        · rename_i hn
          simp only [Option.some.injEq] at h
          subst ht hn h
          exact ⟨rfl, meth159⟩
        · cases h
      · cases h
  mixed := rfl
  memo t n h := by
    simp only [E] at h
    split at h
    · rename_i ht
      have ht : t = 79 := by simpa using ht
      simp only [Option.some.injEq] at h
      subst ht h
      exact memo81
    · cases h
  ahead t n h := by
    simp only [E] at h
    split at h
    · rename_i ht
      have ht : t = 135 := by simpa using ht
      have hn := of_decide_eq_true h
      subst ht hn
      exact ahead155
    · split at h
      · rename_i ht
        have ht : t = 139 := by simpa using ht
        have hn := of_decide_eq_true h
        subst ht hn
        exact ahead159
      · cases h
  eqs t n h := by
    simp only [E] at h
    split at h
    · rename_i ht
      have ht : t = 30 := by simpa using ht
      simp only [Option.some.injEq] at h
      subst ht h
      exact eq41
    · split at h
      · rename_i ht
        have ht : t = 43 := by simpa using ht
        simp only [Option.some.injEq] at h
        subst ht h
        exact eq54
      · split at h
        · rename_i ht
          have ht : t = 96 := by simpa using ht
          simp only [Option.some.injEq] at h
          subst ht h
          exact eq62
        · cases h
  cm t h := by
    have ht : t = 82 := by simpa [E] using h
    subst ht
    exact cm116
theorem Ew_ok : Ew.ok Tryz.prog := ⟨E_ok.ty, E_ok.fn, E_ok.meth, E_ok.mixed, E_ok.memo, E_ok.ahead, E_ok.eqs, E_ok.cm⟩
end Go.Proofs.YtipbempkngfdbaaGreatDoor
