/-
  Parts: E.
-/
import Derived.Test.YthnhlkflkidemaaGreatDoorB10
import Derived.Test.YthnhlkflkidemaaGreatDoorB14
import Derived.Test.YthnhlkflkidemaaGreatDoorProg
set_option linter.unusedVariables false
set_option linter.unusedSimpArgs false
/-
 The tables of types and functions, as the layer Sy reads them, and the proof that they tell the truth.
-/
set_option maxRecDepth 100000
namespace Go.Proofs.YthnhlkflkidemaaGreatDoor
open Go Go.Sy
def nth{α:Type} :List (Option α)→Nat→Option α
 |[],_=>none
 |x::_,0=>x
 |_::xs,n+1=>nth xs n
def AllTy(P:Program):Nat→List (Option TI)→Prop
 |_,[]=>True
 |k,x::xs=>(∀i,x=some i→TyOk P k i)∧AllTy P (k+1) xs
theorem nth_ty{P:Program} : ∀{l:List (Option TI)} {k t:Nat} {i:TI},AllTy P k l→nth l t=some i→TyOk P (k+t) i
 |[],_,_,_,_,h=>by cases h
 |x::xs,k,0,i,h,e=>h.1 i e
 |x::xs,k,t+1,i,h,e=>by
  have:=nth_ty (t:=t) h.2 e;rwa [Nat.add_assoc,Nat.add_comm 1]at this
def AllFn(P:Program):Nat→List (Option Unit)→Prop
 |_,[]=>True
 | k, x :: xs => (x = some () → ∃ f, P.funcs[k]? = some f ∧ f.body.isSome = true ∧ (f.name == "runtime.NumGoroutine") = false) ∧ AllFn P (k + 1) xs
theorem nth_fn {P : Program} : ∀ {l : List (Option Unit)} {k t : Nat}, AllFn P k l → nth l t = some () → ∃ f, P.funcs[k + t]? = some f ∧ f.body.isSome = true ∧ (f.name == "runtime.NumGoroutine") = false
 |[],_,_,_,h=>by cases h
 |x::xs,k,0,h,e=>h.1 e
 |x::xs,k,t+1,h,e=>by
  have:=nth_fn (t:=t) h.2 e;rwa [Nat.add_assoc,Nat.add_comm 1]at this
theorem info_of{t:Nat}{i:TypeInfo}(h:Tryz.prog.types[t]?=some i):Tryz.prog.info? t=some i:=by
 have hl:t<Tryz.prog.types.size:=by
  rcases Nat.lt_or_ge t Tryz.prog.types.size with hl|hl
  ·exact hl
  ·rw[Array.getElem?_eq_none hl]at h;cases h
 show Tables.info? Tryz.prog.toTables t=some i;unfold Tables.info?;rw[if_pos hl];exact h
def fl (n : String) (t o : Nat) (p : String) (b : Nat) : Field := { name := n, type := t, offset := o, embedded := false, tag := "", pkgPath := p, byteOffset := b }
def zI:Nat→List SV
 |0=>[]
 |n+1=> .int .i64 0::zI n
def ti1:TI:=⟨.func #[] #[] false,1,8,.fnil⟩
def ti2:TI:=⟨.int Go.IntKind.i64,1,8,.int .i64 0⟩
def ti3:TI:=⟨.int Go.IntKind.i64,1,8,.int .i64 0⟩
def ti4:TI:=⟨.bool,1,1,.bool false⟩
def ti5:TI:=⟨.int Go.IntKind.u8,1,1,.int .u8 0⟩
def ti6:TI:=⟨.int Go.IntKind.u8,1,1,.int .u8 0⟩
def ti7 : TI := ⟨.struct #[fl "x" 2 0 "runtime" 0, fl "y" 3 1 "runtime" 8, fl "signed" 4 2 "runtime" 16, fl "code" 6 3 "runtime" 17], 4, 24, .agg [.int .i64 0, .int .i64 0, .bool false, .int .u8 0]⟩
def ti8 : TI := ⟨.struct #[fl "x" 2 0 "runtime" 0, fl "y" 3 1 "runtime" 8, fl "signed" 4 2 "runtime" 16, fl "code" 6 3 "runtime" 17], 4, 24, .agg [.int .i64 0, .int .i64 0, .bool false, .int .u8 0]⟩
def ti9:TI:=⟨.string,1,16,.str ({data:= #[]})⟩
def ti10:TI:=⟨.string,1,16,.str ({data:= #[]})⟩
def ti11:TI:=⟨.string,1,16,.str ({data:= #[]})⟩
def ti12:TI:=⟨.int Go.IntKind.u64,1,8,.int .u64 0⟩
def ti13 : TI := ⟨.struct #[fl "msg" 9 0 "runtime" 0, fl "addr" 12 1 "runtime" 16], 2, 24, .agg [.str ({ data := #[] }), .int .u64 0]⟩
def ti14 : TI := ⟨.struct #[fl "msg" 9 0 "runtime" 0, fl "addr" 12 1 "runtime" 16], 2, 24, .agg [.str ({ data := #[] }), .int .u64 0]⟩
def ti15:TI:=⟨.pointer 347,1,8,.pnil⟩
def ti16:TI:=⟨.pointer 350,1,8,.pnil⟩
def ti17:TI:=⟨.pointer 358,1,8,.pnil⟩
def ti18 : TI := ⟨.struct #[fl "typ" 17 0 "internal/runtime/maps" 0], 1, 8, .agg [.pnil]⟩
def ti19 : TI := ⟨.struct #[fl "typ" 17 0 "internal/runtime/maps" 0], 1, 8, .agg [.pnil]⟩
def ti20:TI:=⟨.interface #[],1,16,.inil⟩
def ti21:TI:=⟨.int Go.IntKind.i32,1,4,.int .i32 0⟩
def ti22:TI:=⟨.slice 77,1,24,.snil⟩
def ti23:TI:=⟨.slice 28,1,24,.snil⟩
def ti24:TI:=⟨.slice 195,1,24,.snil⟩
def ti25 : TI := ⟨.struct #[fl "Marks" 22 0 "" 0, fl "Sand" 23 1 "" 24, fl "Looks" 24 2 "" 48], 3, 72, .agg [.snil, .snil, .snil]⟩
def ti26 : TI := ⟨.struct #[fl "Marks" 22 0 "" 0, fl "Sand" 23 1 "" 24, fl "Looks" 24 2 "" 48], 3, 72, .agg [.snil, .snil, .snil]⟩
def ti27 : TI := ⟨.struct #[fl "Lo" 3 0 "" 0, fl "Hi" 3 1 "" 8], 2, 16, .agg (zI 2)⟩
def ti28 : TI := ⟨.struct #[fl "Lo" 3 0 "" 0, fl "Hi" 3 1 "" 8], 2, 16, .agg (zI 2)⟩
def ti29:TI:=⟨.slice 56,1,24,.snil⟩
def ti30 : TI := ⟨.struct #[fl "Tide" 26 0 "" 0, fl "Soft" 28 3 "" 72, fl "Pace" 3 5 "" 88, fl "Bathers" 29 6 "" 96], 7, 120, .agg [.snil, .snil, .snil, .int .i64 0, .int .i64 0, .int .i64 0, .snil]⟩
def ti31 : TI := ⟨.struct #[fl "Tide" 26 0 "" 0, fl "Soft" 28 3 "" 72, fl "Pace" 3 5 "" 88, fl "Bathers" 29 6 "" 96], 7, 120, .agg [.snil, .snil, .snil, .int .i64 0, .int .i64 0, .int .i64 0, .snil]⟩
def ti32:TI:=⟨.slice 3,1,24,.snil⟩
def ti33:TI:=⟨.func #[31,32,3] #[4] false,1,8,.fnil⟩
def ti34:TI:=⟨.func #[] #[4] false,1,8,.fnil⟩
def ti35:TI:=⟨.int Go.IntKind.i64,1,8,.int .i64 0⟩
def ti37:TI:=⟨.func #[31,3] #[3,35] false,1,8,.fnil⟩
def ti39:TI:=⟨.func #[31,32] #[3,3,35] false,1,8,.fnil⟩
def ti40:TI:=⟨.func #[31] #[3,35] false,1,8,.fnil⟩
def ti41:TI:=⟨.slice 89,1,24,.snil⟩
def ti43:TI:=⟨.func #[31,32] #[41,35] false,1,8,.fnil⟩
def ti44:TI:=⟨.func #[41,41] #[4] false,1,8,.fnil⟩
def ti46:TI:=⟨.func #[31] #[3,32,35] false,1,8,.fnil⟩
def ti47:TI:=⟨.func #[32,32] #[4] false,1,8,.fnil⟩
def ti48:TI:=⟨.func #[31] #[4] false,1,8,.fnil⟩
def ti49:TI:=⟨.slice 5,1,24,.snil⟩
def ti50:TI:=⟨.slice 54,1,24,.snil⟩
def ti51:TI:=⟨.func #[26] #[50] false,1,8,.fnil⟩
def ti52:TI:=⟨.func #[31,49] #[32] false,1,8,.fnil⟩
def ti53 : TI := ⟨.struct #[fl "Heights" 32 0 "" 0, fl "Sand" 32 1 "" 24], 2, 48, .agg [.snil, .snil]⟩
def ti54 : TI := ⟨.struct #[fl "Heights" 32 0 "" 0, fl "Sand" 32 1 "" 24], 2, 48, .agg [.snil, .snil]⟩
def ti55 : TI := ⟨.struct #[fl "Hut" 3 0 "" 0, fl "From" 3 1 "" 8, fl "To" 3 2 "" 16, fl "Least" 3 3 "" 24, fl "Most" 3 4 "" 32], 5, 40, .agg (zI 5)⟩
def ti56 : TI := ⟨.struct #[fl "Hut" 3 0 "" 0, fl "From" 3 1 "" 8, fl "To" 3 2 "" 16, fl "Least" 3 3 "" 24, fl "Most" 3 4 "" 32], 5, 40, .agg (zI 5)⟩
def ti57:TI:=⟨.func #[26,54,3,3] #[3] false,1,8,.fnil⟩
def ti58:TI:=⟨.func #[31,49,5,5] #[4] false,1,8,.fnil⟩
def ti59:TI:=⟨.func #[31,3] #[31] false,1,8,.fnil⟩
def ti60:TI:=⟨.func #[3] #[4] false,1,8,.fnil⟩
def ti61:TI:=⟨.func #[3] #[3] false,1,8,.fnil⟩
def ti62:TI:=⟨.func #[31,5] #[4] false,1,8,.fnil⟩
def ti63:TI:=⟨.func #[3] #[] false,1,8,.fnil⟩
def ti64:TI:=⟨.func #[31,32] #[4] false,1,8,.fnil⟩
def ti65:TI:=⟨.func #[31,49] #[4] false,1,8,.fnil⟩
def ti66:TI:=⟨.pointer 56,1,8,.pnil⟩
def ti67:TI:=⟨.func #[3,3] #[28] false,1,8,.fnil⟩
def ti69:TI:=⟨.func #[26,3] #[28,35] false,1,8,.fnil⟩
def ti70:TI:=⟨.func #[26,3,3] #[28,35] false,1,8,.fnil⟩
def ti71:TI:=⟨.func #[31,49,5] #[4] false,1,8,.fnil⟩
def ti73:TI:=⟨.func #[31,32] #[3,3,4] false,1,8,.fnil⟩
def ti74:TI:=⟨.func #[32] #[4] false,1,8,.fnil⟩
def ti75:TI:=⟨.slice 192,1,24,.snil⟩
def ti76 : TI := ⟨.struct #[fl "Minute" 3 0 "" 0, fl "Height" 28 1 "" 8], 3, 24, .agg (zI 3)⟩
def ti77 : TI := ⟨.struct #[fl "Minute" 3 0 "" 0, fl "Height" 28 1 "" 8], 3, 24, .agg (zI 3)⟩
def ti78 : TI := ⟨.struct #[fl "Pace" 3 0 "" 0, fl "Moves" 41 1 "" 8], 2, 32, .agg [.int .i64 0, .snil]⟩
def ti79 : TI := ⟨.struct #[fl "Pace" 3 0 "" 0, fl "Moves" 41 1 "" 8], 2, 32, .agg [.int .i64 0, .snil]⟩
def ti80:TI:=⟨.func #[79,4] #[3,32,35] false,1,8,.fnil⟩
def ti81:TI:=⟨.func #[79,4] #[3,35] false,1,8,.fnil⟩
def ti83:TI:=⟨.func #[79,32] #[23,35] false,1,8,.fnil⟩
def ti84:TI:=⟨.func #[79,3,3] #[3,35] false,1,8,.fnil⟩
def ti85:TI:=⟨.func #[28] #[3] false,1,8,.fnil⟩
def ti86:TI:=⟨.func #[75] #[85] false,1,8,.fnil⟩
def ti87:TI:=⟨.func #[31,3,3] #[3] false,1,8,.fnil⟩
def ti88 : TI := ⟨.struct #[fl "At" 3 0 "" 0, fl "Place" 3 1 "" 8, fl "Long" 28 2 "" 16], 4, 32, .agg (zI 4)⟩
def ti89 : TI := ⟨.struct #[fl "At" 3 0 "" 0, fl "Place" 3 1 "" 8, fl "Long" 28 2 "" 16], 4, 32, .agg (zI 4)⟩
def ti90:TI:=⟨.func #[31,5,75] #[4] false,1,8,.fnil⟩
def ti91:TI:=⟨.func #[4] #[31] false,1,8,.fnil⟩
def ti92:TI:=⟨.func #[93] #[] false,1,8,.fnil⟩
def ti93:TI:=⟨.pointer 35,1,8,.pnil⟩
def ti94:TI:=⟨.array 5 3,5,40,.agg (zI 5)⟩
def ti95 : TI := ⟨.struct #[{ name := "Serve", type := 31, offset := 0, embedded := true, tag := "", pkgPath := "", byteOffset := 0 }, fl "right" 94 7 "dipworks/serve" 120, fl "turn" 32 12 "dipworks/serve" 160], 13, 184, .agg [.snil, .snil, .snil, .int .i64 0, .int .i64 0, .int .i64 0, .snil, .int .i64 0, .int .i64 0, .int .i64 0, .int .i64 0, .int .i64 0, .snil]⟩
def ti96 : TI := ⟨.struct #[{ name := "Serve", type := 31, offset := 0, embedded := true, tag := "", pkgPath := "", byteOffset := 0 }, fl "right" 94 7 "dipworks/serve" 120, fl "turn" 32 12 "dipworks/serve" 160], 13, 184, .agg [.snil, .snil, .snil, .int .i64 0, .int .i64 0, .int .i64 0, .snil, .int .i64 0, .int .i64 0, .int .i64 0, .int .i64 0, .int .i64 0, .snil]⟩
def ti97:TI:=⟨.pointer 96,1,8,.pnil⟩
def ti98:TI:=⟨.func #[31,34] #[97] false,1,8,.fnil⟩
def ti99:TI:=⟨.func #[3,3,3] #[4] false,1,8,.fnil⟩
def ti101:TI:=⟨.func #[31,4] #[32,35] false,1,8,.fnil⟩
def ti102:TI:=⟨.func #[31,32] #[34] false,1,8,.fnil⟩
def ti103:TI:=⟨.func #[3,3,108] #[3] false,1,8,.fnil⟩
def ti104:TI:=⟨.func #[211] #[] false,1,8,.fnil⟩
def ti105:TI:=⟨.func #[211] #[] false,1,8,.fnil⟩
def ti106:TI:=⟨.func #[32] #[105] false,1,8,.fnil⟩
def ti107 : TI := ⟨.struct #[fl "place" 3 0 "dipworks/serve" 0, fl "until" 3 1 "dipworks/serve" 8], 2, 16, .agg (zI 2)⟩
def ti108 : TI := ⟨.struct #[fl "place" 3 0 "dipworks/serve" 0, fl "until" 3 1 "dipworks/serve" 8], 2, 16, .agg (zI 2)⟩
def ti109:TI:=⟨.func #[31,32,32,3,3] #[3] false,1,8,.fnil⟩
def ti110:TI:=⟨.func #[31] #[3] false,1,8,.fnil⟩
def ti111:TI:=⟨.map 116 3,1,8,.mnil⟩
def ti112:TI:=⟨.func #[116] #[3] false,1,8,.fnil⟩
def ti113:TI:=⟨.array 4 108,8,64,.agg (zI 8)⟩
def ti114:TI:=⟨.array 4 108,8,64,.agg (zI 8)⟩
def ti115 : TI := ⟨.struct #[fl "at" 3 0 "dipworks/serve" 0, { name := "stays", type := 114, offset := 1, embedded := true, tag := "", pkgPath := "dipworks/serve", byteOffset := 8 }], 9, 72, .agg (zI 9)⟩
def ti116 : TI := ⟨.struct #[fl "at" 3 0 "dipworks/serve" 0, { name := "stays", type := 114, offset := 1, embedded := true, tag := "", pkgPath := "dipworks/serve", byteOffset := 8 }], 9, 72, .agg (zI 9)⟩
def ti118:TI:=⟨.func #[] #[114] false,1,8,.fnil⟩
def ti119:TI:=⟨.slice 32,1,24,.snil⟩
def ti120:TI:=⟨.func #[31,32,3,32,119] #[119] false,1,8,.fnil⟩
def ti121:TI:=⟨.func #[32] #[41] false,1,8,.fnil⟩
def ti122:TI:=⟨.func #[31,32] #[41] false,1,8,.fnil⟩
def ti124:TI:=⟨.func #[128] #[3,32] false,1,8,.fnil⟩
def ti125:TI:=⟨.func #[32] #[3] true,1,8,.fnil⟩
def ti126:TI:=⟨.func #[32] #[3] false,1,8,.fnil⟩
def ti127 : TI := ⟨.struct #[fl "of" 126 0 "dipworks/serve" 0], 1, 8, .agg [.fnil]⟩
def ti128 : TI := ⟨.struct #[fl "of" 126 0 "dipworks/serve" 0], 1, 8, .agg [.fnil]⟩
def ti130:TI:=⟨.func #[31] #[119,35] false,1,8,.fnil⟩
def ti131:TI:=⟨.func #[31,32] #[3] false,1,8,.fnil⟩
def ti132:TI:=⟨.func #[4,35] #[] false,1,8,.fnil⟩
def ti133:TI:=⟨.func #[134] #[3] false,1,8,.fnil⟩
def ti134:TI:=⟨.int Go.IntKind.u64,1,8,.int .u64 0⟩
def ti135:TI:=⟨.func #[134] #[4] false,1,8,.fnil⟩
def ti136:TI:=⟨.func #[] #[134] false,1,8,.fnil⟩
def ti137:TI:=⟨.func #[26] #[4] false,1,8,.fnil⟩
def ti138:TI:=⟨.func #[26,3] #[4] false,1,8,.fnil⟩
def ti139:TI:=⟨.func #[26,3] #[50] false,1,8,.fnil⟩
def ti140:TI:=⟨.func #[26] #[3] false,1,8,.fnil⟩
def ti141:TI:=⟨.func #[26,32,3] #[3] false,1,8,.fnil⟩
def ti142:TI:=⟨.func #[20,93] #[] false,1,8,.fnil⟩
def ti143:TI:=⟨.pointer 228,1,8,.pnil⟩
def ti144:TI:=⟨.func #[26,145] #[143] false,1,8,.fnil⟩
def ti145:TI:=⟨.func #[143] #[4] false,1,8,.fnil⟩
def ti146:TI:=⟨.func #[147,157] #[28] false,1,8,.fnil⟩
def ti147:TI:=⟨.slice 154,1,24,.snil⟩
def ti148:TI:=⟨.func #[] #[147] false,1,8,.fnil⟩
def ti149:TI:=⟨.array 4 3,4,32,.agg (zI 4)⟩
def ti150:TI:=⟨.array 4 3,4,32,.agg (zI 4)⟩
def ti151:TI:=⟨.int Go.IntKind.u64,1,8,.int .u64 0⟩
def ti152:TI:=⟨.array 4 151,4,32,.agg [.int .u64 0,.int .u64 0,.int .u64 0,.int .u64 0]⟩
def ti153 : TI := ⟨.struct #[{ name := "heights", type := 150, offset := 0, embedded := true, tag := "", pkgPath := "dipworks/tide", byteOffset := 0 }, fl "sand" 152 4 "dipworks/tide" 32], 8, 64, .agg [.int .i64 0, .int .i64 0, .int .i64 0, .int .i64 0, .int .u64 0, .int .u64 0, .int .u64 0, .int .u64 0]⟩
def ti154 : TI := ⟨.struct #[{ name := "heights", type := 150, offset := 0, embedded := true, tag := "", pkgPath := "dipworks/tide", byteOffset := 0 }, fl "sand" 152 4 "dipworks/tide" 32], 8, 64, .agg [.int .i64 0, .int .i64 0, .int .i64 0, .int .i64 0, .int .u64 0, .int .u64 0, .int .u64 0, .int .u64 0]⟩
def ti156:TI:=⟨.func #[151] #[3,3] false,1,8,.fnil⟩
def ti157:TI:=⟨.func #[154] #[3,3] false,1,8,.fnil⟩
def ti158:TI:=⟨.func #[147,3,3] #[28] false,1,8,.fnil⟩
def ti159:TI:=⟨.func #[] #[31] false,1,8,.fnil⟩
def ti160 : TI := ⟨.struct #[{ name := "Horses", type := 79, offset := 0, embedded := true, tag := "", pkgPath := "", byteOffset := 0 }], 2, 32, .agg [.int .i64 0, .snil]⟩
def ti161 : TI := ⟨.struct #[{ name := "Horses", type := 79, offset := 0, embedded := true, tag := "", pkgPath := "", byteOffset := 0 }], 2, 32, .agg [.int .i64 0, .snil]⟩
def ti162:TI:=⟨.func #[79,163] #[161] false,1,8,.fnil⟩
def ti163:TI:=⟨.func #[161] #[4] false,1,8,.fnil⟩
def ti164:TI:=⟨.int Go.IntKind.u64,1,8,.int .u64 0⟩
def ti165:TI:=⟨.array 7 164,7,56,.agg [.int .u64 0,.int .u64 0,.int .u64 0,.int .u64 0,.int .u64 0,.int .u64 0,.int .u64 0]⟩
def ti166:TI:=⟨.array 7 164,7,56,.agg [.int .u64 0,.int .u64 0,.int .u64 0,.int .u64 0,.int .u64 0,.int .u64 0,.int .u64 0]⟩
def ti167:TI:=⟨.func #[169] #[166] false,1,8,.fnil⟩
def ti168 : TI := ⟨.interface #[("dipworks/horse.takes", 281)], 1, 16, .inil⟩
def ti169 : TI := ⟨.interface #[("dipworks/horse.takes", 281)], 1, 16, .inil⟩
def ti170:TI:=⟨.func #[4] #[169] false,1,8,.fnil⟩
def ti171:TI:=⟨.func #[164] #[3] false,1,8,.fnil⟩
def ti172:TI:=⟨.func #[] #[164] false,1,8,.fnil⟩
def ti173:TI:=⟨.array 7 3,7,56,.agg (zI 7)⟩
def ti174:TI:=⟨.func #[3,3] #[4] false,1,8,.fnil⟩
def ti176:TI:=⟨.func #[178,183] #[164,4] false,1,8,.fnil⟩
def ti177:TI:=⟨.func #[181] #[] false,1,8,.fnil⟩
def ti178:TI:=⟨.func #[181] #[] false,1,8,.fnil⟩
def ti179:TI:=⟨.func #[4] #[178] false,1,8,.fnil⟩
def ti180:TI:=⟨.func #[164] #[164] false,1,8,.fnil⟩
def ti181:TI:=⟨.func #[164] #[4] false,1,8,.fnil⟩
def ti182 : TI := ⟨.struct #[fl "is" 181 0 "dipworks/horse" 0], 1, 8, .agg [.fnil]⟩
def ti183 : TI := ⟨.struct #[fl "is" 181 0 "dipworks/horse" 0], 1, 8, .agg [.fnil]⟩
def ti184:TI:=⟨.func #[32] #[163] false,1,8,.fnil⟩
def ti185:TI:=⟨.map 190 3,1,8,.mnil⟩
def ti186:TI:=⟨.func #[32,169] #[185] false,1,8,.fnil⟩
def ti187:TI:=⟨.struct #[],0,0,.agg []⟩
def ti188:TI:=⟨.struct #[],0,0,.agg []⟩
def ti189 : TI := ⟨.struct #[{ name := "HorseMove", type := 89, offset := 0, embedded := true, tag := "", pkgPath := "", byteOffset := 0 }, fl "number" 3 4 "dipworks/horse" 32], 5, 40, .agg (zI 5)⟩
def ti190 : TI := ⟨.struct #[{ name := "HorseMove", type := 89, offset := 0, embedded := true, tag := "", pkgPath := "", byteOffset := 0 }, fl "number" 3 4 "dipworks/horse" 32], 5, 40, .agg (zI 5)⟩
def ti191:TI:=⟨.struct #[],0,0,.agg []⟩
def ti192:TI:=⟨.int Go.IntKind.u16,1,2,.int .u16 0⟩
def ti193:TI:=⟨.func #[31,3,3] #[4] false,1,8,.fnil⟩
def ti194 : TI := ⟨.struct #[fl "Place" 3 0 "" 0, fl "Minute" 3 1 "" 8, fl "Depth" 28 2 "" 16], 4, 32, .agg (zI 4)⟩
def ti195 : TI := ⟨.struct #[fl "Place" 3 0 "" 0, fl "Minute" 3 1 "" 8, fl "Depth" 28 2 "" 16], 4, 32, .agg (zI 4)⟩
def ti196:TI:=⟨.int Go.IntKind.i64,1,8,.int .i64 0⟩
def ti198:TI:=⟨.func #[26,3,3,3] #[23,35] false,1,8,.fnil⟩
def ti199:TI:=⟨.func #[23,200] #[4] false,1,8,.fnil⟩
def ti200:TI:=⟨.func #[28] #[4] false,1,8,.fnil⟩
def ti201:TI:=⟨.func #[3,3] #[3] false,1,8,.fnil⟩
def ti202:TI:=⟨.func #[32,201] #[] false,1,8,.fnil⟩
def ti203:TI:=⟨.func #[31,50] #[32] false,1,8,.fnil⟩
def ti204:TI:=⟨.func #[32,60] #[4] false,1,8,.fnil⟩
def ti205:TI:=⟨.struct #[],0,0,.agg []⟩
def ti206:TI:=⟨.struct #[],0,0,.agg []⟩
def ti207:TI:=⟨.slice 209,1,24,.snil⟩
def ti208 : TI := ⟨.interface #[("dipworks/serve.broken", 210)], 1, 16, .inil⟩
def ti209 : TI := ⟨.interface #[("dipworks/serve.broken", 210)], 1, 16, .inil⟩
def ti210:TI:=⟨.func #[97,3,3,108] #[4] false,1,8,.fnil⟩
def ti211:TI:=⟨.func #[3,108] #[4] false,1,8,.fnil⟩
def ti213:TI:=⟨.func #[215,217,128] #[32,3,4] false,1,8,.fnil⟩
def ti214:TI:=⟨.func #[74] #[] false,1,8,.fnil⟩
def ti215:TI:=⟨.func #[74] #[] false,1,8,.fnil⟩
def ti216:TI:=⟨.func #[134] #[215] false,1,8,.fnil⟩
def ti217:TI:=⟨.func #[32,32] #[3] false,1,8,.fnil⟩
def ti218:TI:=⟨.func #[219] #[3] false,1,8,.fnil⟩
def ti219:TI:=⟨.int Go.IntKind.u32,1,4,.int .u32 0⟩
def ti220:TI:=⟨.func #[151] #[3] false,1,8,.fnil⟩
def ti221:TI:=⟨.func #[23,32,119] #[119] false,1,8,.fnil⟩
def ti222:TI:=⟨.func #[26,54,3] #[4] false,1,8,.fnil⟩
def ti223 : TI := ⟨.struct #[fl "e" 35 0 "dipworks/tide" 0], 1, 8, .agg [.int .i64 0]⟩
def ti224 : TI := ⟨.struct #[fl "e" 35 0 "dipworks/tide" 0], 1, 8, .agg [.int .i64 0]⟩
def ti226:TI:=⟨.map 272 3,1,8,.mnil⟩
def ti227 : TI := ⟨.struct #[{ name := "Tide", type := 26, offset := 0, embedded := true, tag := "", pkgPath := "", byteOffset := 0 }, fl "known" 226 3 "dipworks/tide" 72], 4, 80, .agg [.snil, .snil, .snil, .mnil]⟩
def ti228 : TI := ⟨.struct #[{ name := "Tide", type := 26, offset := 0, embedded := true, tag := "", pkgPath := "", byteOffset := 0 }, fl "known" 226 3 "dipworks/tide" 72], 4, 80, .agg [.snil, .snil, .snil, .mnil]⟩
def ti229 : TI := ⟨.struct #[{ name := "Span", type := 28, offset := 0, embedded := true, tag := "", pkgPath := "", byteOffset := 0 }, fl "some" 4 2 "dipworks/tide" 16, fl "of" 157 3 "dipworks/tide" 24], 4, 32, .agg [.int .i64 0, .int .i64 0, .bool false, .fnil]⟩
def ti230 : TI := ⟨.struct #[{ name := "Span", type := 28, offset := 0, embedded := true, tag := "", pkgPath := "", byteOffset := 0 }, fl "some" 4 2 "dipworks/tide" 16, fl "of" 157 3 "dipworks/tide" 24], 4, 32, .agg [.int .i64 0, .int .i64 0, .bool false, .fnil]⟩
def ti231:TI:=⟨.func #[154] #[] false,1,8,.fnil⟩
def ti232:TI:=⟨.func #[234] #[147] false,1,8,.fnil⟩
def ti233:TI:=⟨.func #[266] #[] false,1,8,.fnil⟩
def ti234:TI:=⟨.func #[266] #[] false,1,8,.fnil⟩
def ti235:TI:=⟨.func #[134] #[234] false,1,8,.fnil⟩
def ti236:TI:=⟨.func #[] #[3] false,1,8,.fnil⟩
def ti237:TI:=⟨.func #[150,3] #[3] false,1,8,.fnil⟩
def ti239:TI:=⟨.func #[242,3] #[32,3,35] false,1,8,.fnil⟩
def ti240:TI:=⟨.slice 278,1,24,.snil⟩
def ti241 : TI := ⟨.struct #[fl "Rows" 3 0 "" 0, fl "Step" 3 1 "" 8, fl "Water" 23 2 "" 16, fl "Waves" 23 3 "" 40, fl "Huts" 240 4 "" 64], 5, 88, .agg [.int .i64 0, .int .i64 0, .snil, .snil, .snil]⟩
def ti242 : TI := ⟨.struct #[fl "Rows" 3 0 "" 0, fl "Step" 3 1 "" 8, fl "Water" 23 2 "" 16, fl "Waves" 23 3 "" 40, fl "Huts" 240 4 "" 64], 5, 88, .agg [.int .i64 0, .int .i64 0, .snil, .snil, .snil]⟩
def ti243:TI:=⟨.func #[] #[242] false,1,8,.fnil⟩
def ti244:TI:=⟨.func #[] #[79] false,1,8,.fnil⟩
def ti245:TI:=⟨.int Go.IntKind.i64,1,8,.int .i64 0⟩
def ti247:TI:=⟨.func #[3,3,3,169] #[3] false,1,8,.fnil⟩
def ti248:TI:=⟨.func #[282] #[164] true,1,8,.fnil⟩
def ti249:TI:=⟨.map 3 3,1,8,.mnil⟩
def ti250:TI:=⟨.slice 190,1,24,.snil⟩
def ti251:TI:=⟨.func #[250,252] #[] false,1,8,.fnil⟩
def ti252:TI:=⟨.func #[190,190] #[3] false,1,8,.fnil⟩
def ti253:TI:=⟨.map 3 190,1,8,.mnil⟩
def ti255:TI:=⟨.func #[23,200] #[3] false,1,8,.fnil⟩
def ti256:TI:=⟨.func #[32,3,3,3,201] #[] false,1,8,.fnil⟩
def ti257:TI:=⟨.func #[31,50,56,3] #[4] false,1,8,.fnil⟩
def ti258:TI:=⟨.func #[32,60] #[3] false,1,8,.fnil⟩
def ti259:TI:=⟨.func #[97,3,3,108] #[3] false,1,8,.fnil⟩
def ti260:TI:=⟨.func #[3,114] #[4] false,1,8,.fnil⟩
def ti261:TI:=⟨.func #[79,4] #[35] false,1,8,.fnil⟩
def ti262:TI:=⟨.func #[79,3,3,4,32,119] #[119] false,1,8,.fnil⟩
def ti263:TI:=⟨.func #[79] #[3] false,1,8,.fnil⟩
def ti264:TI:=⟨.pointer 230,1,8,.pnil⟩
def ti265:TI:=⟨.func #[147,234] #[147] false,1,8,.fnil⟩
def ti266:TI:=⟨.func #[154] #[4] false,1,8,.fnil⟩
def ti267:TI:=⟨.func #[150,3] #[4] false,1,8,.fnil⟩
def ti268:TI:=⟨.func #[3,3] #[150] false,1,8,.fnil⟩
def ti269:TI:=⟨.func #[150,3,134] #[151] false,1,8,.fnil⟩
def ti270:TI:=⟨.array 64 5,64,64,.agg [.int .u8 0,.int .u8 0,.int .u8 0,.int .u8 0,.int .u8 0,.int .u8 0,.int .u8 0,.int .u8 0,.int .u8 0,.int .u8 0,.int .u8 0,.int .u8 0,.int .u8 0,.int .u8 0,.int .u8 0,.int .u8 0,.int .u8 0,.int .u8 0,.int .u8 0,.int .u8 0,.int .u8 0,.int .u8 0,.int .u8 0,.int .u8 0,.int .u8 0,.int .u8 0,.int .u8 0,.int .u8 0,.int .u8 0,.int .u8 0,.int .u8 0,.int .u8 0,.int .u8 0,.int .u8 0,.int .u8 0,.int .u8 0,.int .u8 0,.int .u8 0,.int .u8 0,.int .u8 0,.int .u8 0,.int .u8 0,.int .u8 0,.int .u8 0,.int .u8 0,.int .u8 0,.int .u8 0,.int .u8 0,.int .u8 0,.int .u8 0,.int .u8 0,.int .u8 0,.int .u8 0,.int .u8 0,.int .u8 0,.int .u8 0,.int .u8 0,.int .u8 0,.int .u8 0,.int .u8 0,.int .u8 0,.int .u8 0,.int .u8 0,.int .u8 0]⟩
def ti271 : TI := ⟨.struct #[{ name := "heights", type := 150, offset := 0, embedded := true, tag := "", pkgPath := "dipworks/tide", byteOffset := 0 }, fl "minute" 3 4 "dipworks/tide" 32], 5, 40, .agg (zI 5)⟩
def ti272 : TI := ⟨.struct #[{ name := "heights", type := 150, offset := 0, embedded := true, tag := "", pkgPath := "dipworks/tide", byteOffset := 0 }, fl "minute" 3 4 "dipworks/tide" 32], 5, 40, .agg (zI 5)⟩
def ti273:TI:=⟨.func #[22,274] #[3] false,1,8,.fnil⟩
def ti274:TI:=⟨.func #[77] #[4] false,1,8,.fnil⟩
def ti275:TI:=⟨.pointer 303,1,8,.pnil⟩
def ti276:TI:=⟨.func #[242,4] #[275] false,1,8,.fnil⟩
def ti277 : TI := ⟨.struct #[fl "Floor" 3 0 "" 0, fl "Brake" 3 1 "" 8, fl "Row" 3 2 "" 16], 3, 24, .agg (zI 3)⟩
def ti278 : TI := ⟨.struct #[fl "Floor" 3 0 "" 0, fl "Brake" 3 1 "" 8, fl "Row" 3 2 "" 16], 3, 24, .agg (zI 3)⟩
def ti279:TI:=⟨.func #[278] #[3] false,1,8,.fnil⟩
def ti280:TI:=⟨.array 8 3,8,64,.agg (zI 8)⟩
def ti281:TI:=⟨.func #[89] #[3] false,1,8,.fnil⟩
def ti282:TI:=⟨.slice 164,1,24,.snil⟩
def ti283:TI:=⟨.func #[250,3,252] #[] false,1,8,.fnil⟩
def ti284:TI:=⟨.func #[32,3,3,201] #[] false,1,8,.fnil⟩
def ti285:TI:=⟨.int Go.IntKind.i64,1,8,.int .i64 0⟩
def ti287:TI:=⟨.func #[32,3,3,201] #[3,285] false,1,8,.fnil⟩
def ti288:TI:=⟨.func #[32,3,3,201] #[4] false,1,8,.fnil⟩
def ti289:TI:=⟨.func #[32,3,3,3,201] #[3] false,1,8,.fnil⟩
def ti290:TI:=⟨.func #[32,3,3,3,201] #[3,4] false,1,8,.fnil⟩
def ti291:TI:=⟨.func #[79] #[4] false,1,8,.fnil⟩
def ti292:TI:=⟨.func #[79,3,3,4] #[4] false,1,8,.fnil⟩
def ti293:TI:=⟨.struct #[],0,0,.agg []⟩
def ti294 : TI := ⟨.interface #[("dipworks/tide.fits", 174)], 1, 16, .inil⟩
def ti295 : TI := ⟨.interface #[("dipworks/tide.fits", 174)], 1, 16, .inil⟩
def ti296 : TI := ⟨.struct #[{ name := "nothing", type := 293, offset := 0, embedded := true, tag := "", pkgPath := "dipworks/tide", byteOffset := 0 }, fl "depth" 28 0 "dipworks/tide" 0], 2, 16, .agg (zI 2)⟩
def ti297 : TI := ⟨.struct #[{ name := "nothing", type := 293, offset := 0, embedded := true, tag := "", pkgPath := "dipworks/tide", byteOffset := 0 }, fl "depth" 28 0 "dipworks/tide" 0], 2, 16, .agg (zI 2)⟩
def ti298:TI:=⟨.int Go.IntKind.i64,1,8,.int .i64 0⟩
def ti300:TI:=⟨.func #[28,3] #[4] false,1,8,.fnil⟩
def ti301:TI:=⟨.map 339 4,1,8,.mnil⟩
def ti302 : TI := ⟨.struct #[{ name := "Surf", type := 242, offset := 0, embedded := true, tag := "", pkgPath := "", byteOffset := 0 }, fl "known" 301 5 "dipworks/surf" 88], 6, 96, .agg [.int .i64 0, .int .i64 0, .snil, .snil, .snil, .mnil]⟩
def ti303 : TI := ⟨.struct #[{ name := "Surf", type := 242, offset := 0, embedded := true, tag := "", pkgPath := "", byteOffset := 0 }, fl "known" 301 5 "dipworks/surf" 88], 6, 96, .agg [.int .i64 0, .int .i64 0, .snil, .snil, .snil, .mnil]⟩
def ti304:TI:=⟨.func #[305,309] #[3] false,1,8,.fnil⟩
def ti305:TI:=⟨.slice 307,1,24,.snil⟩
def ti306 : TI := ⟨.struct #[fl "yes" 4 0 "dipworks/surf" 0, fl "no" 4 1 "dipworks/surf" 1], 2, 2, .agg [.bool false, .bool false]⟩
def ti307 : TI := ⟨.struct #[fl "yes" 4 0 "dipworks/surf" 0, fl "no" 4 1 "dipworks/surf" 1], 2, 2, .agg [.bool false, .bool false]⟩
def ti308:TI:=⟨.func #[278] #[305] false,1,8,.fnil⟩
def ti309:TI:=⟨.func #[307] #[4] false,1,8,.fnil⟩
def ti310:TI:=⟨.func #[250,3,3,252] #[] false,1,8,.fnil⟩
def ti311:TI:=⟨.func #[250,3,3,3,252] #[] false,1,8,.fnil⟩
def ti312:TI:=⟨.int Go.IntKind.u64,1,8,.int .u64 0⟩
def ti313:TI:=⟨.func #[3] #[134] false,1,8,.fnil⟩
def ti314:TI:=⟨.func #[] #[151] false,1,8,.fnil⟩
def ti315:TI:=⟨.func #[32,3,316,201] #[3] false,1,8,.fnil⟩
def ti316:TI:=⟨.pointer 3,1,8,.pnil⟩
def ti317:TI:=⟨.func #[32,3,3,3,316,201] #[3] false,1,8,.fnil⟩
def ti318:TI:=⟨.int Go.IntKind.u64,1,8,.int .u64 0⟩
def ti319:TI:=⟨.array 9 318,9,72,.agg [.int .u64 0,.int .u64 0,.int .u64 0,.int .u64 0,.int .u64 0,.int .u64 0,.int .u64 0,.int .u64 0,.int .u64 0]⟩
def ti320:TI:=⟨.array 9 318,9,72,.agg [.int .u64 0,.int .u64 0,.int .u64 0,.int .u64 0,.int .u64 0,.int .u64 0,.int .u64 0,.int .u64 0,.int .u64 0]⟩
def ti321:TI:=⟨.func #[278] #[320] false,1,8,.fnil⟩
def ti322:TI:=⟨.func #[278,318,3,332] #[] false,1,8,.fnil⟩
def ti323:TI:=⟨.pointer 307,1,8,.pnil⟩
def ti324:TI:=⟨.pointer 312,1,8,.pnil⟩
def ti325:TI:=⟨.func #[32,3,3,316,201] #[3,3] false,1,8,.fnil⟩
def ti326:TI:=⟨.func #[79,3,3] #[3] false,1,8,.fnil⟩
def ti327:TI:=⟨.func #[3] #[318] false,1,8,.fnil⟩
def ti328 : TI := ⟨.struct #[fl "to" 318 0 "dipworks/surf" 0], 1, 8, .agg [.int .u64 0]⟩
def ti329 : TI := ⟨.struct #[fl "to" 318 0 "dipworks/surf" 0], 1, 8, .agg [.int .u64 0]⟩
def ti330:TI:=⟨.pointer 329,1,8,.pnil⟩
def ti331 : TI := ⟨.interface #[("dipworks/surf.see", 340)], 1, 16, .inil⟩
def ti332 : TI := ⟨.interface #[("dipworks/surf.see", 340)], 1, 16, .inil⟩
def ti333:TI:=⟨.func #[342] #[] false,1,8,.fnil⟩
def ti334:TI:=⟨.func #[342] #[] false,1,8,.fnil⟩
def ti335:TI:=⟨.func #[3] #[334] false,1,8,.fnil⟩
def ti336 : TI := ⟨.struct #[fl "water" 3 0 "dipworks/surf" 0, fl "wave" 3 1 "dipworks/surf" 8], 2, 16, .agg (zI 2)⟩
def ti337 : TI := ⟨.struct #[fl "water" 3 0 "dipworks/surf" 0, fl "wave" 3 1 "dipworks/surf" 8], 2, 16, .agg (zI 2)⟩
def ti338 : TI := ⟨.struct #[{ name := "SurfHut", type := 278, offset := 0, embedded := true, tag := "", pkgPath := "", byteOffset := 0 }, { name := "hour", type := 337, offset := 3, embedded := true, tag := "", pkgPath := "dipworks/surf", byteOffset := 24 }, fl "place" 318 5 "dipworks/surf" 40], 6, 48, .agg [.int .i64 0, .int .i64 0, .int .i64 0, .int .i64 0, .int .i64 0, .int .u64 0]⟩
def ti339 : TI := ⟨.struct #[{ name := "SurfHut", type := 278, offset := 0, embedded := true, tag := "", pkgPath := "", byteOffset := 0 }, { name := "hour", type := 337, offset := 3, embedded := true, tag := "", pkgPath := "dipworks/surf", byteOffset := 24 }, fl "place" 318 5 "dipworks/surf" 40], 6, 48, .agg [.int .i64 0, .int .i64 0, .int .i64 0, .int .i64 0, .int .i64 0, .int .u64 0]⟩
def ti340:TI:=⟨.func #[339,4] #[] false,1,8,.fnil⟩
def ti341:TI:=⟨.func #[339] #[4] false,1,8,.fnil⟩
def ti342:TI:=⟨.func #[337] #[4] false,1,8,.fnil⟩
def ti344:TI:=⟨.array 32 5,32,32,.agg [.int .u8 0,.int .u8 0,.int .u8 0,.int .u8 0,.int .u8 0,.int .u8 0,.int .u8 0,.int .u8 0,.int .u8 0,.int .u8 0,.int .u8 0,.int .u8 0,.int .u8 0,.int .u8 0,.int .u8 0,.int .u8 0,.int .u8 0,.int .u8 0,.int .u8 0,.int .u8 0,.int .u8 0,.int .u8 0,.int .u8 0,.int .u8 0,.int .u8 0,.int .u8 0,.int .u8 0,.int .u8 0,.int .u8 0,.int .u8 0,.int .u8 0,.int .u8 0]⟩
def ti345:TI:=⟨.func #[] #[9] false,1,8,.fnil⟩
def ti346 : TI := ⟨.struct #[fl "_interface" 17 0 "runtime" 0, fl "concrete" 17 1 "runtime" 8, fl "asserted" 17 2 "runtime" 16, fl "missingMethod" 9 3 "runtime" 24], 4, 40, .agg [.pnil, .pnil, .pnil, .str ({ data := #[] })]⟩
def ti347 : TI := ⟨.struct #[fl "_interface" 17 0 "runtime" 0, fl "concrete" 17 1 "runtime" 8, fl "asserted" 17 2 "runtime" 16, fl "missingMethod" 9 3 "runtime" 24], 4, 40, .agg [.pnil, .pnil, .pnil, .str ({ data := #[] })]⟩
def ti348:TI:=⟨.array 0 16,0,0,.agg []⟩
def ti349 : TI := ⟨.struct #[fl "_" 348 0 "runtime" 0], 0, 0, .agg []⟩
def ti350 : TI := ⟨.struct #[fl "_" 348 0 "runtime" 0], 0, 0, .agg []⟩
def ti351:TI:=⟨.int Go.IntKind.u8,1,1,.int .u8 0⟩
def ti352:TI:=⟨.int Go.IntKind.u8,1,1,.int .u8 0⟩
def ti353:TI:=⟨.func #[362,362] #[4] false,1,8,.fnil⟩
def ti354:TI:=⟨.pointer 5,1,8,.pnil⟩
def ti355:TI:=⟨.int Go.IntKind.i32,1,4,.int .i32 0⟩
def ti356:TI:=⟨.int Go.IntKind.i32,1,4,.int .i32 0⟩
def ti357 : TI := ⟨.struct #[fl "Size_" 12 0 "" 0, fl "PtrBytes" 12 1 "" 8, fl "Hash" 219 2 "" 16, fl "TFlag" 351 3 "" 20, fl "Align_" 5 4 "" 21, fl "FieldAlign_" 5 5 "" 22, fl "Kind_" 352 6 "" 23, fl "Equal" 353 7 "" 24, fl "GCData" 354 8 "" 32, fl "Str" 355 9 "" 40, fl "PtrToThis" 356 10 "" 44], 11, 48, .agg [.int .u64 0, .int .u64 0, .int .u32 0, .int .u8 0, .int .u8 0, .int .u8 0, .int .u8 0, .fnil, .pnil, .int .i32 0, .int .i32 0]⟩
def ti358 : TI := ⟨.struct #[fl "Size_" 12 0 "" 0, fl "PtrBytes" 12 1 "" 8, fl "Hash" 219 2 "" 16, fl "TFlag" 351 3 "" 20, fl "Align_" 5 4 "" 21, fl "FieldAlign_" 5 5 "" 22, fl "Kind_" 352 6 "" 23, fl "Equal" 353 7 "" 24, fl "GCData" 354 8 "" 32, fl "Str" 355 9 "" 40, fl "PtrToThis" 356 10 "" 44], 11, 48, .agg [.int .u64 0, .int .u64 0, .int .u32 0, .int .u8 0, .int .u8 0, .int .u8 0, .int .u8 0, .fnil, .pnil, .int .i32 0, .int .i32 0]⟩
def ti359:TI:=⟨.func #[] #[318] false,1,8,.fnil⟩
def ti360:TI:=⟨.func #[361] #[318] true,1,8,.fnil⟩
def ti361:TI:=⟨.slice 318,1,24,.snil⟩
def ti362:TI:=⟨.unsafePointer,1,8,.pnil⟩
def tyL:List (Option TI):=[none,some ti1,some ti2,some ti3,some ti4,some ti5,some ti6,some ti7,some ti8,some ti9,some ti10,some ti11,some ti12,some ti13,some ti14,some ti15,some ti16,some ti17,some ti18,some ti19,some ti20,some ti21,some ti22,some ti23,some ti24,some ti25,some ti26,some ti27,some ti28,some ti29,some ti30,some ti31,some ti32,some ti33,some ti34,some ti35,none,some ti37,none,some ti39,some ti40,some ti41,none,some ti43,some ti44,none,some ti46,some ti47,some ti48,some ti49,some ti50,some ti51,some ti52,some ti53,some ti54,some ti55,some ti56,some ti57,some ti58,some ti59,some ti60,some ti61,some ti62,some ti63,some ti64,some ti65,some ti66,some ti67,none,some ti69,some ti70,some ti71,none,some ti73,some ti74,some ti75,some ti76,some ti77,some ti78,some ti79,some ti80,some ti81,none,some ti83,some ti84,some ti85,some ti86,some ti87,some ti88,some ti89,some ti90,some ti91,some ti92,some ti93,some ti94,some ti95,some ti96,some ti97,some ti98,some ti99,none,some ti101,some ti102,some ti103,some ti104,some ti105,some ti106,some ti107,some ti108,some ti109,some ti110,some ti111,some ti112,some ti113,some ti114,some ti115,some ti116,none,some ti118,some ti119,some ti120,some ti121,some ti122,none,some ti124,some ti125,some ti126,some ti127,some ti128,none,some ti130,some ti131,some ti132,some ti133,some ti134,some ti135,some ti136,some ti137,some ti138,some ti139,some ti140,some ti141,some ti142,some ti143,some ti144,some ti145,some ti146,some ti147,some ti148,some ti149,some ti150,some ti151,some ti152,some ti153,some ti154,none,some ti156,some ti157,some ti158,some ti159,some ti160,some ti161,some ti162,some ti163,some ti164,some ti165,some ti166,some ti167,some ti168,some ti169,some ti170,some ti171,some ti172,some ti173,some ti174,none,some ti176,some ti177,some ti178,some ti179,some ti180,some ti181,some ti182,some ti183,some ti184,some ti185,some ti186,some ti187,some ti188,some ti189,some ti190,some ti191,some ti192,some ti193,some ti194,some ti195,some ti196,none,some ti198,some ti199,some ti200,some ti201,some ti202,some ti203,some ti204,some ti205,some ti206,some ti207,some ti208,some ti209,some ti210,some ti211,none,some ti213,some ti214,some ti215,some ti216,some ti217,some ti218,some ti219,some ti220,some ti221,some ti222,some ti223,some ti224,none,some ti226,some ti227,some ti228,some ti229,some ti230,some ti231,some ti232,some ti233,some ti234,some ti235,some ti236,some ti237,none,some ti239,some ti240,some ti241,some ti242,some ti243,some ti244,some ti245,none,some ti247,some ti248,some ti249,some ti250,some ti251,some ti252,some ti253,none,some ti255,some ti256,some ti257,some ti258,some ti259,some ti260,some ti261,some ti262,some ti263,some ti264,some ti265,some ti266,some ti267,some ti268,some ti269,some ti270,some ti271,some ti272,some ti273,some ti274,some ti275,some ti276,some ti277,some ti278,some ti279,some ti280,some ti281,some ti282,some ti283,some ti284,some ti285,none,some ti287,some ti288,some ti289,some ti290,some ti291,some ti292,some ti293,some ti294,some ti295,some ti296,some ti297,some ti298,none,some ti300,some ti301,some ti302,some ti303,some ti304,some ti305,some ti306,some ti307,some ti308,some ti309,some ti310,some ti311,some ti312,some ti313,some ti314,some ti315,some ti316,some ti317,some ti318,some ti319,some ti320,some ti321,some ti322,some ti323,some ti324,some ti325,some ti326,some ti327,some ti328,some ti329,some ti330,some ti331,some ti332,some ti333,some ti334,some ti335,some ti336,some ti337,some ti338,some ti339,some ti340,some ti341,some ti342,none,some ti344,some ti345,some ti346,some ti347,some ti348,some ti349,some ti350,some ti351,some ti352,some ti353,some ti354,some ti355,some ti356,some ti357,some ti358,some ti359,some ti360,some ti361,some ti362]
def fnL:List (Option Unit):=[none,none,some (),some (),some (),some (),some (),some (),some (),some (),some (),some (),some (),some (),some (),some (),some (),some (),some (),some (),some (),some (),some (),some (),some (),some (),some (),some (),some (),some (),some (),some (),some (),some (),some (),some (),some (),some (),some (),some (),some (),some (),some (),some (),some (),some (),some (),some (),some (),some (),some (),some (),some (),some (),some (),some (),some (),some (),some (),some (),some (),some (),some (),some (),some (),some (),some (),some (),some (),some (),some (),some (),some (),some (),some (),some (),some (),some (),some (),some (),some (),some (),some (),some (),some (),some (),some (),some (),some (),some (),some (),some (),some (),some (),some (),some (),some (),some (),some (),some (),some (),some (),some (),some (),some (),some (),some (),some (),some (),some (),some (),some (),some (),some (),some (),some (),some (),some (),some (),some (),some (),some (),some (),some (),some (),some (),some (),some (),some (),some (),some (),some (),some (),some (),some (),some (),some (),some (),some (),some (),some (),some (),some (),some (),some (),some (),some (),some (),some (),some (),some (),some (),some (),some (),some (),some (),some (),some (),some (),some (),some (),some (),some (),some (),some (),some (),some (),some (),some (),some (),some (),some (),some (),some (),some (),some (),some (),some (),some (),some (),some (),some (),some (),some (),some (),some (),some (),some (),some (),some (),some (),some (),some (),some (),some (),some (),some (),some (),some (),some (),some (),some (),some (),some (),some (),some (),some (),some (),some (),some (),some (),some (),some (),some (),some (),some (),some (),some (),some (),some (),some (),some (),some (),some (),some (),some (),some (),some (),some (),some (),some (),some (),some (),some (),some (),some (),some (),some (),some (),some (),some (),some (),some (),some (),some (),some (),some (),some (),some (),some (),some (),some (),some (),some (),some (),some (),some (),some (),some (),none,none,none,none,none,none,none,none,none,none,none,none,none,none,none,none,some (),some (),some (),some (),some (),some (),some (),some (),some (),some (),none,none,none,none,none,none,some ()]
theorem cT{P:Program}{k:Nat}{i:TI}{xs:List (Option TI)}(h:TyOk P k i)(hx:AllTy P (k+1) xs):AllTy P k (some i::xs):=⟨fun _ e=>Option.some.inj e▸h,hx⟩
theorem cN{P:Program}{k:Nat}{xs:List (Option TI)}(hx:AllTy P (k+1) xs):AllTy P k (none::xs):=⟨fun _ e=>(nomatch e),hx⟩
theorem dT {P : Program} {k : Nat} {f : Func} {xs : List (Option Unit)} (h : P.funcs[k]? = some f) (hb : f.body.isSome = true) (hn : (f.name == "runtime.NumGoroutine") = false) (hx : AllFn P (k + 1) xs) : AllFn P k (some () :: xs) := ⟨fun _ => ⟨f, h, hb, hn⟩, hx⟩
theorem dN{P:Program}{k:Nat}{xs:List (Option Unit)}(hx:AllFn P (k+1) xs):AllFn P k (none::xs):=⟨fun e=>(nomatch e),hx⟩
theorem tK{t:Nat}{f:TypeInfo}{i:TI}{z:Value}(u:Tryz.prog.underlying t=some i.desc)(h:Tryz.prog.types[t]?=some f)(a:f.size=i.size:=by rfl)(b:f.bytes=i.bytes:=by rfl)(c:f.zero=some z:=by rfl)(d: ∀η,den η i.zero=some z:=by exact fun _=>rfl)(e:z.cells.size=i.size:=by rfl):TyOk Tryz.prog t i:=⟨u,⟨f,z,info_of h,a,b,c,d,e⟩⟩
theorem tyL_ok:AllTy Tryz.prog 0 tyL:=cN (cT (tK Tryz.underlying1 Tryz.type1) (cT (tK Tryz.underlying2 Tryz.type2) (cT (tK Tryz.underlying3 Tryz.type3) (cT (tK Tryz.underlying4 Tryz.type4) (cT (tK Tryz.underlying5 Tryz.type5) (cT (tK Tryz.underlying6 Tryz.type6) (cT (tK Tryz.underlying7 Tryz.type7) (cT (tK Tryz.underlying8 Tryz.type8) (cT (tK Tryz.underlying9 Tryz.type9) (cT (tK Tryz.underlying10 Tryz.type10) (cT (tK Tryz.underlying11 Tryz.type11) (cT (tK Tryz.underlying12 Tryz.type12) (cT (tK Tryz.underlying13 Tryz.type13) (cT (tK Tryz.underlying14 Tryz.type14) (cT (tK Tryz.underlying15 Tryz.type15) (cT (tK Tryz.underlying16 Tryz.type16) (cT (tK Tryz.underlying17 Tryz.type17) (cT (tK Tryz.underlying18 Tryz.type18) (cT (tK Tryz.underlying19 Tryz.type19) (cT (tK Tryz.underlying20 Tryz.type20) (cT (tK Tryz.underlying21 Tryz.type21) (cT (tK Tryz.underlying22 Tryz.type22) (cT (tK Tryz.underlying23 Tryz.type23) (cT (tK Tryz.underlying24 Tryz.type24) (cT (tK Tryz.underlying25 Tryz.type25) (cT (tK Tryz.underlying26 Tryz.type26) (cT (tK Tryz.underlying27 Tryz.type27) (cT (tK Tryz.underlying28 Tryz.type28) (cT (tK Tryz.underlying29 Tryz.type29) (cT (tK Tryz.underlying30 Tryz.type30) (cT (tK Tryz.underlying31 Tryz.type31) (cT (tK Tryz.underlying32 Tryz.type32) (cT (tK Tryz.underlying33 Tryz.type33) (cT (tK Tryz.underlying34 Tryz.type34) (cT (tK Tryz.underlying35 Tryz.type35) (cN (cT (tK Tryz.underlying37 Tryz.type37) (cN (cT (tK Tryz.underlying39 Tryz.type39) (cT (tK Tryz.underlying40 Tryz.type40) (cT (tK Tryz.underlying41 Tryz.type41) (cN (cT (tK Tryz.underlying43 Tryz.type43) (cT (tK Tryz.underlying44 Tryz.type44) (cN (cT (tK Tryz.underlying46 Tryz.type46) (cT (tK Tryz.underlying47 Tryz.type47) (cT (tK Tryz.underlying48 Tryz.type48) (cT (tK Tryz.underlying49 Tryz.type49) (cT (tK Tryz.underlying50 Tryz.type50) (cT (tK Tryz.underlying51 Tryz.type51) (cT (tK Tryz.underlying52 Tryz.type52) (cT (tK Tryz.underlying53 Tryz.type53) (cT (tK Tryz.underlying54 Tryz.type54) (cT (tK Tryz.underlying55 Tryz.type55) (cT (tK Tryz.underlying56 Tryz.type56) (cT (tK Tryz.underlying57 Tryz.type57) (cT (tK Tryz.underlying58 Tryz.type58) (cT (tK Tryz.underlying59 Tryz.type59) (cT (tK Tryz.underlying60 Tryz.type60) (cT (tK Tryz.underlying61 Tryz.type61) (cT (tK Tryz.underlying62 Tryz.type62) (cT (tK Tryz.underlying63 Tryz.type63) (cT (tK Tryz.underlying64 Tryz.type64) (cT (tK Tryz.underlying65 Tryz.type65) (cT (tK Tryz.underlying66 Tryz.type66) (cT (tK Tryz.underlying67 Tryz.type67) (cN (cT (tK Tryz.underlying69 Tryz.type69) (cT (tK Tryz.underlying70 Tryz.type70) (cT (tK Tryz.underlying71 Tryz.type71) (cN (cT (tK Tryz.underlying73 Tryz.type73) (cT (tK Tryz.underlying74 Tryz.type74) (cT (tK Tryz.underlying75 Tryz.type75) (cT (tK Tryz.underlying76 Tryz.type76) (cT (tK Tryz.underlying77 Tryz.type77) (cT (tK Tryz.underlying78 Tryz.type78) (cT (tK Tryz.underlying79 Tryz.type79) (cT (tK Tryz.underlying80 Tryz.type80) (cT (tK Tryz.underlying81 Tryz.type81) (cN (cT (tK Tryz.underlying83 Tryz.type83) (cT (tK Tryz.underlying84 Tryz.type84) (cT (tK Tryz.underlying85 Tryz.type85) (cT (tK Tryz.underlying86 Tryz.type86) (cT (tK Tryz.underlying87 Tryz.type87) (cT (tK Tryz.underlying88 Tryz.type88) (cT (tK Tryz.underlying89 Tryz.type89) (cT (tK Tryz.underlying90 Tryz.type90) (cT (tK Tryz.underlying91 Tryz.type91) (cT (tK Tryz.underlying92 Tryz.type92) (cT (tK Tryz.underlying93 Tryz.type93) (cT (tK Tryz.underlying94 Tryz.type94) (cT (tK Tryz.underlying95 Tryz.type95) (cT (tK Tryz.underlying96 Tryz.type96) (cT (tK Tryz.underlying97 Tryz.type97) (cT (tK Tryz.underlying98 Tryz.type98) (cT (tK Tryz.underlying99 Tryz.type99) (cN (cT (tK Tryz.underlying101 Tryz.type101) (cT (tK Tryz.underlying102 Tryz.type102) (cT (tK Tryz.underlying103 Tryz.type103) (cT (tK Tryz.underlying104 Tryz.type104) (cT (tK Tryz.underlying105 Tryz.type105) (cT (tK Tryz.underlying106 Tryz.type106) (cT (tK Tryz.underlying107 Tryz.type107) (cT (tK Tryz.underlying108 Tryz.type108) (cT (tK Tryz.underlying109 Tryz.type109) (cT (tK Tryz.underlying110 Tryz.type110) (cT (tK Tryz.underlying111 Tryz.type111) (cT (tK Tryz.underlying112 Tryz.type112) (cT (tK Tryz.underlying113 Tryz.type113) (cT (tK Tryz.underlying114 Tryz.type114) (cT (tK Tryz.underlying115 Tryz.type115) (cT (tK Tryz.underlying116 Tryz.type116) (cN (cT (tK Tryz.underlying118 Tryz.type118) (cT (tK Tryz.underlying119 Tryz.type119) (cT (tK Tryz.underlying120 Tryz.type120) (cT (tK Tryz.underlying121 Tryz.type121) (cT (tK Tryz.underlying122 Tryz.type122) (cN (cT (tK Tryz.underlying124 Tryz.type124) (cT (tK Tryz.underlying125 Tryz.type125) (cT (tK Tryz.underlying126 Tryz.type126) (cT (tK Tryz.underlying127 Tryz.type127) (cT (tK Tryz.underlying128 Tryz.type128) (cN (cT (tK Tryz.underlying130 Tryz.type130) (cT (tK Tryz.underlying131 Tryz.type131) (cT (tK Tryz.underlying132 Tryz.type132) (cT (tK Tryz.underlying133 Tryz.type133) (cT (tK Tryz.underlying134 Tryz.type134) (cT (tK Tryz.underlying135 Tryz.type135) (cT (tK Tryz.underlying136 Tryz.type136) (cT (tK Tryz.underlying137 Tryz.type137) (cT (tK Tryz.underlying138 Tryz.type138) (cT (tK Tryz.underlying139 Tryz.type139) (cT (tK Tryz.underlying140 Tryz.type140) (cT (tK Tryz.underlying141 Tryz.type141) (cT (tK Tryz.underlying142 Tryz.type142) (cT (tK Tryz.underlying143 Tryz.type143) (cT (tK Tryz.underlying144 Tryz.type144) (cT (tK Tryz.underlying145 Tryz.type145) (cT (tK Tryz.underlying146 Tryz.type146) (cT (tK Tryz.underlying147 Tryz.type147) (cT (tK Tryz.underlying148 Tryz.type148) (cT (tK Tryz.underlying149 Tryz.type149) (cT (tK Tryz.underlying150 Tryz.type150) (cT (tK Tryz.underlying151 Tryz.type151) (cT (tK Tryz.underlying152 Tryz.type152) (cT (tK Tryz.underlying153 Tryz.type153) (cT (tK Tryz.underlying154 Tryz.type154) (cN (cT (tK Tryz.underlying156 Tryz.type156) (cT (tK Tryz.underlying157 Tryz.type157) (cT (tK Tryz.underlying158 Tryz.type158) (cT (tK Tryz.underlying159 Tryz.type159) (cT (tK Tryz.underlying160 Tryz.type160) (cT (tK Tryz.underlying161 Tryz.type161) (cT (tK Tryz.underlying162 Tryz.type162) (cT (tK Tryz.underlying163 Tryz.type163) (cT (tK Tryz.underlying164 Tryz.type164) (cT (tK Tryz.underlying165 Tryz.type165) (cT (tK Tryz.underlying166 Tryz.type166) (cT (tK Tryz.underlying167 Tryz.type167) (cT (tK Tryz.underlying168 Tryz.type168) (cT (tK Tryz.underlying169 Tryz.type169) (cT (tK Tryz.underlying170 Tryz.type170) (cT (tK Tryz.underlying171 Tryz.type171) (cT (tK Tryz.underlying172 Tryz.type172) (cT (tK Tryz.underlying173 Tryz.type173) (cT (tK Tryz.underlying174 Tryz.type174) (cN (cT (tK Tryz.underlying176 Tryz.type176) (cT (tK Tryz.underlying177 Tryz.type177) (cT (tK Tryz.underlying178 Tryz.type178) (cT (tK Tryz.underlying179 Tryz.type179) (cT (tK Tryz.underlying180 Tryz.type180) (cT (tK Tryz.underlying181 Tryz.type181) (cT (tK Tryz.underlying182 Tryz.type182) (cT (tK Tryz.underlying183 Tryz.type183) (cT (tK Tryz.underlying184 Tryz.type184) (cT (tK Tryz.underlying185 Tryz.type185) (cT (tK Tryz.underlying186 Tryz.type186) (cT (tK Tryz.underlying187 Tryz.type187) (cT (tK Tryz.underlying188 Tryz.type188) (cT (tK Tryz.underlying189 Tryz.type189) (cT (tK Tryz.underlying190 Tryz.type190) (cT (tK Tryz.underlying191 Tryz.type191) (cT (tK Tryz.underlying192 Tryz.type192) (cT (tK Tryz.underlying193 Tryz.type193) (cT (tK Tryz.underlying194 Tryz.type194) (cT (tK Tryz.underlying195 Tryz.type195) (cT (tK Tryz.underlying196 Tryz.type196) (cN (cT (tK Tryz.underlying198 Tryz.type198) (cT (tK Tryz.underlying199 Tryz.type199) (cT (tK Tryz.underlying200 Tryz.type200) (cT (tK Tryz.underlying201 Tryz.type201) (cT (tK Tryz.underlying202 Tryz.type202) (cT (tK Tryz.underlying203 Tryz.type203) (cT (tK Tryz.underlying204 Tryz.type204) (cT (tK Tryz.underlying205 Tryz.type205) (cT (tK Tryz.underlying206 Tryz.type206) (cT (tK Tryz.underlying207 Tryz.type207) (cT (tK Tryz.underlying208 Tryz.type208) (cT (tK Tryz.underlying209 Tryz.type209) (cT (tK Tryz.underlying210 Tryz.type210) (cT (tK Tryz.underlying211 Tryz.type211) (cN (cT (tK Tryz.underlying213 Tryz.type213) (cT (tK Tryz.underlying214 Tryz.type214) (cT (tK Tryz.underlying215 Tryz.type215) (cT (tK Tryz.underlying216 Tryz.type216) (cT (tK Tryz.underlying217 Tryz.type217) (cT (tK Tryz.underlying218 Tryz.type218) (cT (tK Tryz.underlying219 Tryz.type219) (cT (tK Tryz.underlying220 Tryz.type220) (cT (tK Tryz.underlying221 Tryz.type221) (cT (tK Tryz.underlying222 Tryz.type222) (cT (tK Tryz.underlying223 Tryz.type223) (cT (tK Tryz.underlying224 Tryz.type224) (cN (cT (tK Tryz.underlying226 Tryz.type226) (cT (tK Tryz.underlying227 Tryz.type227) (cT (tK Tryz.underlying228 Tryz.type228) (cT (tK Tryz.underlying229 Tryz.type229) (cT (tK Tryz.underlying230 Tryz.type230) (cT (tK Tryz.underlying231 Tryz.type231) (cT (tK Tryz.underlying232 Tryz.type232) (cT (tK Tryz.underlying233 Tryz.type233) (cT (tK Tryz.underlying234 Tryz.type234) (cT (tK Tryz.underlying235 Tryz.type235) (cT (tK Tryz.underlying236 Tryz.type236) (cT (tK Tryz.underlying237 Tryz.type237) (cN (cT (tK Tryz.underlying239 Tryz.type239) (cT (tK Tryz.underlying240 Tryz.type240) (cT (tK Tryz.underlying241 Tryz.type241) (cT (tK Tryz.underlying242 Tryz.type242) (cT (tK Tryz.underlying243 Tryz.type243) (cT (tK Tryz.underlying244 Tryz.type244) (cT (tK Tryz.underlying245 Tryz.type245) (cN (cT (tK Tryz.underlying247 Tryz.type247) (cT (tK Tryz.underlying248 Tryz.type248) (cT (tK Tryz.underlying249 Tryz.type249) (cT (tK Tryz.underlying250 Tryz.type250) (cT (tK Tryz.underlying251 Tryz.type251) (cT (tK Tryz.underlying252 Tryz.type252) (cT (tK Tryz.underlying253 Tryz.type253) (cN (cT (tK Tryz.underlying255 Tryz.type255) (cT (tK Tryz.underlying256 Tryz.type256) (cT (tK Tryz.underlying257 Tryz.type257) (cT (tK Tryz.underlying258 Tryz.type258) (cT (tK Tryz.underlying259 Tryz.type259) (cT (tK Tryz.underlying260 Tryz.type260) (cT (tK Tryz.underlying261 Tryz.type261) (cT (tK Tryz.underlying262 Tryz.type262) (cT (tK Tryz.underlying263 Tryz.type263) (cT (tK Tryz.underlying264 Tryz.type264) (cT (tK Tryz.underlying265 Tryz.type265) (cT (tK Tryz.underlying266 Tryz.type266) (cT (tK Tryz.underlying267 Tryz.type267) (cT (tK Tryz.underlying268 Tryz.type268) (cT (tK Tryz.underlying269 Tryz.type269) (cT (tK Tryz.underlying270 Tryz.type270) (cT (tK Tryz.underlying271 Tryz.type271) (cT (tK Tryz.underlying272 Tryz.type272) (cT (tK Tryz.underlying273 Tryz.type273) (cT (tK Tryz.underlying274 Tryz.type274) (cT (tK Tryz.underlying275 Tryz.type275) (cT (tK Tryz.underlying276 Tryz.type276) (cT (tK Tryz.underlying277 Tryz.type277) (cT (tK Tryz.underlying278 Tryz.type278) (cT (tK Tryz.underlying279 Tryz.type279) (cT (tK Tryz.underlying280 Tryz.type280) (cT (tK Tryz.underlying281 Tryz.type281) (cT (tK Tryz.underlying282 Tryz.type282) (cT (tK Tryz.underlying283 Tryz.type283) (cT (tK Tryz.underlying284 Tryz.type284) (cT (tK Tryz.underlying285 Tryz.type285) (cN (cT (tK Tryz.underlying287 Tryz.type287) (cT (tK Tryz.underlying288 Tryz.type288) (cT (tK Tryz.underlying289 Tryz.type289) (cT (tK Tryz.underlying290 Tryz.type290) (cT (tK Tryz.underlying291 Tryz.type291) (cT (tK Tryz.underlying292 Tryz.type292) (cT (tK Tryz.underlying293 Tryz.type293) (cT (tK Tryz.underlying294 Tryz.type294) (cT (tK Tryz.underlying295 Tryz.type295) (cT (tK Tryz.underlying296 Tryz.type296) (cT (tK Tryz.underlying297 Tryz.type297) (cT (tK Tryz.underlying298 Tryz.type298) (cN (cT (tK Tryz.underlying300 Tryz.type300) (cT (tK Tryz.underlying301 Tryz.type301) (cT (tK Tryz.underlying302 Tryz.type302) (cT (tK Tryz.underlying303 Tryz.type303) (cT (tK Tryz.underlying304 Tryz.type304) (cT (tK Tryz.underlying305 Tryz.type305) (cT (tK Tryz.underlying306 Tryz.type306) (cT (tK Tryz.underlying307 Tryz.type307) (cT (tK Tryz.underlying308 Tryz.type308) (cT (tK Tryz.underlying309 Tryz.type309) (cT (tK Tryz.underlying310 Tryz.type310) (cT (tK Tryz.underlying311 Tryz.type311) (cT (tK Tryz.underlying312 Tryz.type312) (cT (tK Tryz.underlying313 Tryz.type313) (cT (tK Tryz.underlying314 Tryz.type314) (cT (tK Tryz.underlying315 Tryz.type315) (cT (tK Tryz.underlying316 Tryz.type316) (cT (tK Tryz.underlying317 Tryz.type317) (cT (tK Tryz.underlying318 Tryz.type318) (cT (tK Tryz.underlying319 Tryz.type319) (cT (tK Tryz.underlying320 Tryz.type320) (cT (tK Tryz.underlying321 Tryz.type321) (cT (tK Tryz.underlying322 Tryz.type322) (cT (tK Tryz.underlying323 Tryz.type323) (cT (tK Tryz.underlying324 Tryz.type324) (cT (tK Tryz.underlying325 Tryz.type325) (cT (tK Tryz.underlying326 Tryz.type326) (cT (tK Tryz.underlying327 Tryz.type327) (cT (tK Tryz.underlying328 Tryz.type328) (cT (tK Tryz.underlying329 Tryz.type329) (cT (tK Tryz.underlying330 Tryz.type330) (cT (tK Tryz.underlying331 Tryz.type331) (cT (tK Tryz.underlying332 Tryz.type332) (cT (tK Tryz.underlying333 Tryz.type333) (cT (tK Tryz.underlying334 Tryz.type334) (cT (tK Tryz.underlying335 Tryz.type335) (cT (tK Tryz.underlying336 Tryz.type336) (cT (tK Tryz.underlying337 Tryz.type337) (cT (tK Tryz.underlying338 Tryz.type338) (cT (tK Tryz.underlying339 Tryz.type339) (cT (tK Tryz.underlying340 Tryz.type340) (cT (tK Tryz.underlying341 Tryz.type341) (cT (tK Tryz.underlying342 Tryz.type342) (cN (cT (tK Tryz.underlying344 Tryz.type344) (cT (tK Tryz.underlying345 Tryz.type345) (cT (tK Tryz.underlying346 Tryz.type346) (cT (tK Tryz.underlying347 Tryz.type347) (cT (tK Tryz.underlying348 Tryz.type348) (cT (tK Tryz.underlying349 Tryz.type349) (cT (tK Tryz.underlying350 Tryz.type350) (cT (tK Tryz.underlying351 Tryz.type351) (cT (tK Tryz.underlying352 Tryz.type352) (cT (tK Tryz.underlying353 Tryz.type353) (cT (tK Tryz.underlying354 Tryz.type354) (cT (tK Tryz.underlying355 Tryz.type355) (cT (tK Tryz.underlying356 Tryz.type356) (cT (tK Tryz.underlying357 Tryz.type357) (cT (tK Tryz.underlying358 Tryz.type358) (cT (tK Tryz.underlying359 Tryz.type359) (cT (tK Tryz.underlying360 Tryz.type360) (cT (tK Tryz.underlying361 Tryz.type361) (cT (tK Tryz.underlying362 Tryz.type362) (trivial)))))))))))))))))))))))))))))))))))))))))))))))))))))))))))))))))))))))))))))))))))))))))))))))))))))))))))))))))))))))))))))))))))))))))))))))))))))))))))))))))))))))))))))))))))))))))))))))))))))))))))))))))))))))))))))))))))))))))))))))))))))))))))))))))))))))))))))))))))))))))))))))))))))))))))))))))))))))))))))))))))))))))))))))))))))))))))))))))))))))))))
theorem fnL_ok:AllFn Tryz.prog 0 fnL:=dN (dN (dT Tryz.func2 rfl (by decide) (dT Tryz.func3 rfl (by decide) (dT Tryz.func4 rfl (by decide) (dT Tryz.func5 rfl (by decide) (dT Tryz.func6 rfl (by decide) (dT Tryz.func7 rfl (by decide) (dT Tryz.func8 rfl (by decide) (dT Tryz.func9 rfl (by decide) (dT Tryz.func10 rfl (by decide) (dT Tryz.func11 rfl (by decide) (dT Tryz.func12 rfl (by decide) (dT Tryz.func13 rfl (by decide) (dT Tryz.func14 rfl (by decide) (dT Tryz.func15 rfl (by decide) (dT Tryz.func16 rfl (by decide) (dT Tryz.func17 rfl (by decide) (dT Tryz.func18 rfl (by decide) (dT Tryz.func19 rfl (by decide) (dT Tryz.func20 rfl (by decide) (dT Tryz.func21 rfl (by decide) (dT Tryz.func22 rfl (by decide) (dT Tryz.func23 rfl (by decide) (dT Tryz.func24 rfl (by decide) (dT Tryz.func25 rfl (by decide) (dT Tryz.func26 rfl (by decide) (dT Tryz.func27 rfl (by decide) (dT Tryz.func28 rfl (by decide) (dT Tryz.func29 rfl (by decide) (dT Tryz.func30 rfl (by decide) (dT Tryz.func31 rfl (by decide) (dT Tryz.func32 rfl (by decide) (dT Tryz.func33 rfl (by decide) (dT Tryz.func34 rfl (by decide) (dT Tryz.func35 rfl (by decide) (dT Tryz.func36 rfl (by decide) (dT Tryz.func37 rfl (by decide) (dT Tryz.func38 rfl (by decide) (dT Tryz.func39 rfl (by decide) (dT Tryz.func40 rfl (by decide) (dT Tryz.func41 rfl (by decide) (dT Tryz.func42 rfl (by decide) (dT Tryz.func43 rfl (by decide) (dT Tryz.func44 rfl (by decide) (dT Tryz.func45 rfl (by decide) (dT Tryz.func46 rfl (by decide) (dT Tryz.func47 rfl (by decide) (dT Tryz.func48 rfl (by decide) (dT Tryz.func49 rfl (by decide) (dT Tryz.func50 rfl (by decide) (dT Tryz.func51 rfl (by decide) (dT Tryz.func52 rfl (by decide) (dT Tryz.func53 rfl (by decide) (dT Tryz.func54 rfl (by decide) (dT Tryz.func55 rfl (by decide) (dT Tryz.func56 rfl (by decide) (dT Tryz.func57 rfl (by decide) (dT Tryz.func58 rfl (by decide) (dT Tryz.func59 rfl (by decide) (dT Tryz.func60 rfl (by decide) (dT Tryz.func61 rfl (by decide) (dT Tryz.func62 rfl (by decide) (dT Tryz.func63 rfl (by decide) (dT Tryz.func64 rfl (by decide) (dT Tryz.func65 rfl (by decide) (dT Tryz.func66 rfl (by decide) (dT Tryz.func67 rfl (by decide) (dT Tryz.func68 rfl (by decide) (dT Tryz.func69 rfl (by decide) (dT Tryz.func70 rfl (by decide) (dT Tryz.func71 rfl (by decide) (dT Tryz.func72 rfl (by decide) (dT Tryz.func73 rfl (by decide) (dT Tryz.func74 rfl (by decide) (dT Tryz.func75 rfl (by decide) (dT Tryz.func76 rfl (by decide) (dT Tryz.func77 rfl (by decide) (dT Tryz.func78 rfl (by decide) (dT Tryz.func79 rfl (by decide) (dT Tryz.func80 rfl (by decide) (dT Tryz.func81 rfl (by decide) (dT Tryz.func82 rfl (by decide) (dT Tryz.func83 rfl (by decide) (dT Tryz.func84 rfl (by decide) (dT Tryz.func85 rfl (by decide) (dT Tryz.func86 rfl (by decide) (dT Tryz.func87 rfl (by decide) (dT Tryz.func88 rfl (by decide) (dT Tryz.func89 rfl (by decide) (dT Tryz.func90 rfl (by decide) (dT Tryz.func91 rfl (by decide) (dT Tryz.func92 rfl (by decide) (dT Tryz.func93 rfl (by decide) (dT Tryz.func94 rfl (by decide) (dT Tryz.func95 rfl (by decide) (dT Tryz.func96 rfl (by decide) (dT Tryz.func97 rfl (by decide) (dT Tryz.func98 rfl (by decide) (dT Tryz.func99 rfl (by decide) (dT Tryz.func100 rfl (by decide) (dT Tryz.func101 rfl (by decide) (dT Tryz.func102 rfl (by decide) (dT Tryz.func103 rfl (by decide) (dT Tryz.func104 rfl (by decide) (dT Tryz.func105 rfl (by decide) (dT Tryz.func106 rfl (by decide) (dT Tryz.func107 rfl (by decide) (dT Tryz.func108 rfl (by decide) (dT Tryz.func109 rfl (by decide) (dT Tryz.func110 rfl (by decide) (dT Tryz.func111 rfl (by decide) (dT Tryz.func112 rfl (by decide) (dT Tryz.func113 rfl (by decide) (dT Tryz.func114 rfl (by decide) (dT Tryz.func115 rfl (by decide) (dT Tryz.func116 rfl (by decide) (dT Tryz.func117 rfl (by decide) (dT Tryz.func118 rfl (by decide) (dT Tryz.func119 rfl (by decide) (dT Tryz.func120 rfl (by decide) (dT Tryz.func121 rfl (by decide) (dT Tryz.func122 rfl (by decide) (dT Tryz.func123 rfl (by decide) (dT Tryz.func124 rfl (by decide) (dT Tryz.func125 rfl (by decide) (dT Tryz.func126 rfl (by decide) (dT Tryz.func127 rfl (by decide) (dT Tryz.func128 rfl (by decide) (dT Tryz.func129 rfl (by decide) (dT Tryz.func130 rfl (by decide) (dT Tryz.func131 rfl (by decide) (dT Tryz.func132 rfl (by decide) (dT Tryz.func133 rfl (by decide) (dT Tryz.func134 rfl (by decide) (dT Tryz.func135 rfl (by decide) (dT Tryz.func136 rfl (by decide) (dT Tryz.func137 rfl (by decide) (dT Tryz.func138 rfl (by decide) (dT Tryz.func139 rfl (by decide) (dT Tryz.func140 rfl (by decide) (dT Tryz.func141 rfl (by decide) (dT Tryz.func142 rfl (by decide) (dT Tryz.func143 rfl (by decide) (dT Tryz.func144 rfl (by decide) (dT Tryz.func145 rfl (by decide) (dT Tryz.func146 rfl (by decide) (dT Tryz.func147 rfl (by decide) (dT Tryz.func148 rfl (by decide) (dT Tryz.func149 rfl (by decide) (dT Tryz.func150 rfl (by decide) (dT Tryz.func151 rfl (by decide) (dT Tryz.func152 rfl (by decide) (dT Tryz.func153 rfl (by decide) (dT Tryz.func154 rfl (by decide) (dT Tryz.func155 rfl (by decide) (dT Tryz.func156 rfl (by decide) (dT Tryz.func157 rfl (by decide) (dT Tryz.func158 rfl (by decide) (dT Tryz.func159 rfl (by decide) (dT Tryz.func160 rfl (by decide) (dT Tryz.func161 rfl (by decide) (dT Tryz.func162 rfl (by decide) (dT Tryz.func163 rfl (by decide) (dT Tryz.func164 rfl (by decide) (dT Tryz.func165 rfl (by decide) (dT Tryz.func166 rfl (by decide) (dT Tryz.func167 rfl (by decide) (dT Tryz.func168 rfl (by decide) (dT Tryz.func169 rfl (by decide) (dT Tryz.func170 rfl (by decide) (dT Tryz.func171 rfl (by decide) (dT Tryz.func172 rfl (by decide) (dT Tryz.func173 rfl (by decide) (dT Tryz.func174 rfl (by decide) (dT Tryz.func175 rfl (by decide) (dT Tryz.func176 rfl (by decide) (dT Tryz.func177 rfl (by decide) (dT Tryz.func178 rfl (by decide) (dT Tryz.func179 rfl (by decide) (dT Tryz.func180 rfl (by decide) (dT Tryz.func181 rfl (by decide) (dT Tryz.func182 rfl (by decide) (dT Tryz.func183 rfl (by decide) (dT Tryz.func184 rfl (by decide) (dT Tryz.func185 rfl (by decide) (dT Tryz.func186 rfl (by decide) (dT Tryz.func187 rfl (by decide) (dT Tryz.func188 rfl (by decide) (dT Tryz.func189 rfl (by decide) (dT Tryz.func190 rfl (by decide) (dT Tryz.func191 rfl (by decide) (dT Tryz.func192 rfl (by decide) (dT Tryz.func193 rfl (by decide) (dT Tryz.func194 rfl (by decide) (dT Tryz.func195 rfl (by decide) (dT Tryz.func196 rfl (by decide) (dT Tryz.func197 rfl (by decide) (dT Tryz.func198 rfl (by decide) (dT Tryz.func199 rfl (by decide) (dT Tryz.func200 rfl (by decide) (dT Tryz.func201 rfl (by decide) (dT Tryz.func202 rfl (by decide) (dT Tryz.func203 rfl (by decide) (dT Tryz.func204 rfl (by decide) (dT Tryz.func205 rfl (by decide) (dT Tryz.func206 rfl (by decide) (dT Tryz.func207 rfl (by decide) (dT Tryz.func208 rfl (by decide) (dT Tryz.func209 rfl (by decide) (dT Tryz.func210 rfl (by decide) (dT Tryz.func211 rfl (by decide) (dT Tryz.func212 rfl (by decide) (dT Tryz.func213 rfl (by decide) (dT Tryz.func214 rfl (by decide) (dT Tryz.func215 rfl (by decide) (dT Tryz.func216 rfl (by decide) (dT Tryz.func217 rfl (by decide) (dT Tryz.func218 rfl (by decide) (dT Tryz.func219 rfl (by decide) (dT Tryz.func220 rfl (by decide) (dT Tryz.func221 rfl (by decide) (dT Tryz.func222 rfl (by decide) (dT Tryz.func223 rfl (by decide) (dT Tryz.func224 rfl (by decide) (dT Tryz.func225 rfl (by decide) (dT Tryz.func226 rfl (by decide) (dT Tryz.func227 rfl (by decide) (dT Tryz.func228 rfl (by decide) (dT Tryz.func229 rfl (by decide) (dT Tryz.func230 rfl (by decide) (dT Tryz.func231 rfl (by decide) (dT Tryz.func232 rfl (by decide) (dT Tryz.func233 rfl (by decide) (dT Tryz.func234 rfl (by decide) (dT Tryz.func235 rfl (by decide) (dT Tryz.func236 rfl (by decide) (dT Tryz.func237 rfl (by decide) (dT Tryz.func238 rfl (by decide) (dT Tryz.func239 rfl (by decide) (dT Tryz.func240 rfl (by decide) (dT Tryz.func241 rfl (by decide) (dT Tryz.func242 rfl (by decide) (dT Tryz.func243 rfl (by decide) (dT Tryz.func244 rfl (by decide) (dT Tryz.func245 rfl (by decide) (dT Tryz.func246 rfl (by decide) (dT Tryz.func247 rfl (by decide) (dT Tryz.func248 rfl (by decide) (dT Tryz.func249 rfl (by decide) (dT Tryz.func250 rfl (by decide) (dT Tryz.func251 rfl (by decide) (dT Tryz.func252 rfl (by decide) (dT Tryz.func253 rfl (by decide) (dT Tryz.func254 rfl (by decide) (dT Tryz.func255 rfl (by decide) (dT Tryz.func256 rfl (by decide) (dT Tryz.func257 rfl (by decide) (dT Tryz.func258 rfl (by decide) (dN (dN (dN (dN (dN (dN (dN (dN (dN (dN (dN (dN (dN (dN (dN (dN (dT Tryz.func275 rfl (by decide) (dT Tryz.func276 rfl (by decide) (dT Tryz.func277 rfl (by decide) (dT Tryz.func278 rfl (by decide) (dT Tryz.func279 rfl (by decide) (dT Tryz.func280 rfl (by decide) (dT Tryz.func281 rfl (by decide) (dT Tryz.func282 rfl (by decide) (dT Tryz.func283 rfl (by decide) (dT Tryz.func284 rfl (by decide) (dN (dN (dN (dN (dN (dN (dT Tryz.func291 rfl (by decide) (trivial))))))))))))))))))))))))))))))))))))))))))))))))))))))))))))))))))))))))))))))))))))))))))))))))))))))))))))))))))))))))))))))))))))))))))))))))))))))))))))))))))))))))))))))))))))))))))))))))))))))))))))))))))))))))))))))))))))))))))))))))))))))))))))))))))))))))))))))))))))))))))))))))))))
def E:Env where
 ty t:=nth tyL t;wrap:=false;fn k:=match nth fnL k with
  |some _=>true
  |none=>false
 meth t name:=match Nat.beq t 293 with
  | true => if name = "dipworks/tide.fits" then some 279 else none
  |false=>match Nat.beq t 297 with
   | true => if name = "dipworks/tide.fits" then some 280 else none
   |false=>match Nat.beq t 188 with
    | true => if name = "dipworks/horse.takes" then some 275 else none
    |false=>match Nat.beq t 191 with
     | true => if name = "dipworks/horse.takes" then some 276 else none
     |false=>match Nat.beq t 205 with
      | true => if name = "dipworks/serve.broken" then some 277 else none
      |false=>match Nat.beq t 206 with
       | true => if name = "dipworks/serve.broken" then some 278 else none
       |false=>none
 memo t:=match Nat.beq t 226 with
  |true=>some 5
  |false=>none
 ahead t name:=match Nat.beq t 293 with
  | true => decide (name = "dipworks/tide.fits")
  |false=>match Nat.beq t 297 with
   | true => decide (name = "dipworks/tide.fits")
   |false=>false
 eqs t:=match Nat.beq t 28 with
  |true=>some 2
  |false=>match Nat.beq t 77 with
   |true=>some 3
   |false=>match Nat.beq t 195 with
    |true=>some 4
    |false=>match Nat.beq t 89 with
     |true=>some 4
     |false=>match Nat.beq t 56 with
      |true=>some 5
      |false=>none
 eqb _:=none;cm t:=match Nat.beq t 249 with
  |true=>true
  |false=>false
 gm t:=match Nat.beq t 185 with
  |true=>some g94
  |false=>match Nat.beq t 253 with
   |true=>some g129
   |false=>match Nat.beq t 111 with
    |true=>some g111
    |false=>none
def Ew:Env:={E with wrap:=true}
theorem E_ok:E.ok Tryz.prog where
 ty t i h:=by simpa using nth_ty (k:=0) tyL_ok h
 fn k h:=by
  have h':nth fnL k=some ():=by
   unfold E at h;cases hk:nth fnL k with
   |none=>simp[hk]at h
   |some u=>rfl
  simpa using nth_fn (k:=0) fnL_ok h'
 meth t n f h:=by
  simp only[E]at h;split at h
  ·rename_i ht;have ht:t=293:=by simpa using ht
   split at h
   ·rename_i hn;simp only[Option.some.injEq]at h;subst ht hn h;exact⟨rfl,meth155⟩
   ·cases h
  ·split at h
   ·rename_i ht;have ht:t=297:=by simpa using ht
    split at h
    ·rename_i hn;simp only[Option.some.injEq]at h;subst ht hn h;exact⟨rfl,meth159⟩
    ·cases h
   ·split at h
    ·rename_i ht;have ht:t=188:=by simpa using ht
     split at h
     ·rename_i hn;simp only[Option.some.injEq]at h;subst ht hn h;exact⟨rfl,meth86⟩
     ·cases h
    ·split at h
     ·rename_i ht;have ht:t=191:=by simpa using ht
      split at h
      ·rename_i hn;simp only[Option.some.injEq]at h;subst ht hn h;exact⟨rfl,meth85⟩
      ·cases h
     ·split at h
      ·rename_i ht;have ht:t=205:=by simpa using ht
       split at h
       ·rename_i hn;simp only[Option.some.injEq]at h;subst ht hn h;exact⟨rfl,meth205⟩
       ·cases h
      ·split at h
       ·rename_i ht;have ht:t=206:=by simpa using ht
        split at h
        ·rename_i hn;simp only[Option.some.injEq]at h;subst ht hn h;exact⟨rfl,meth206⟩
        ·cases h
       ·cases h
 mixed:=rfl;memo t n h:=by
  simp only[E]at h;split at h
  ·rename_i ht;have ht:t=226:=by simpa using ht
   simp only[Option.some.injEq]at h;subst ht h;exact memo81
  ·cases h
 ahead t n h:=by
  simp only[E]at h;split at h
  ·rename_i ht;have ht:t=293:=by simpa using ht
   simp only[decide_eq_true_eq]at h;subst ht h;exact ahead155
  ·split at h
   ·rename_i ht;have ht:t=297:=by simpa using ht
    simp only[decide_eq_true_eq]at h;subst ht h;exact ahead159
   ·cases h
 eqs t n h:=by
  simp only[E]at h;split at h
  ·rename_i ht;have ht:t=28:=by simpa using ht
   simp only[Option.some.injEq]at h;subst ht h;exact eq41
  ·split at h
   ·rename_i ht;have ht:t=77:=by simpa using ht
    simp only[Option.some.injEq]at h;subst ht h;exact eq54
   ·split at h
    ·rename_i ht;have ht:t=195:=by simpa using ht
     simp only[Option.some.injEq]at h;subst ht h;exact eq62
    ·split at h
     ·rename_i ht;have ht:t=89:=by simpa using ht
      simp only[Option.some.injEq]at h;subst ht h;exact eq54H
     ·split at h
      ·rename_i ht;have ht:t=56:=by simpa using ht
       simp only[Option.some.injEq]at h;subst ht h;exact eq56
      ·cases h
 eqb t n h:=by cases h
 cm t h:=by
  simp only[E]at h;split at h
  ·rename_i ht;have ht:t=249:=by simpa using ht
   subst ht;exact cm116
  ·cases h
 gm t g h:=by
  simp only[E]at h;split at h
  ·rename_i ht;have ht:t=185:=by simpa using ht
   simp only[Option.some.injEq]at h;subst ht h;exact gm94
  ·split at h
   ·rename_i ht;have ht:t=253:=by simpa using ht
    simp only[Option.some.injEq]at h;subst ht h;exact gm129
   ·split at h
    ·rename_i ht;have ht:t=111:=by simpa using ht
     simp only[Option.some.injEq]at h;subst ht h;exact gm111
    ·cases h
theorem Ew_ok:Ew.ok Tryz.prog:=⟨E_ok.ty,E_ok.fn,E_ok.meth,E_ok.mixed,E_ok.memo,E_ok.ahead,E_ok.eqs,E_ok.eqb,E_ok.cm,E_ok.gm⟩
end Go.Proofs.YthnhlkflkidemaaGreatDoor
