/-
  Parts: Mm.
-/
import Derived.Test.YthnhlkflkidemaaGreatDoorB3
import Derived.Test.YthnhlkflkidemaaGreatDoorProg
import Derived.Laws.StructEq
import Derived.ChangeKeysEq
import Derived.KernelRfl
set_option linter.unusedVariables false
set_option linter.unusedSimpArgs false
/-
 Types of the packages tide, horse, serve: maps, methods, comparisons.
-/
namespace Go.Proofs.YthnhlkflkidemaaGreatDoor
open Go Go.Sy
set_option maxRecDepth 100000
theorem memo81_chk(b:Bool)(x y z u v:Int)(w:World):(Instr.checkKey b 10000 272 (intsV [x,y,z,u,v])).run Tryz.prog w= .ok () w:=by
 kernel_rfl
theorem memo81_arr(d:Nat)(x y z u x' y' z' u':Int)(w:World):(Op.equalIn (d+2) 150 (.agg #[.int .i64 x,.int .i64 y,.int .i64 z,.int .i64 u]) (.agg #[.int .i64 x',.int .i64 y',.int .i64 z',.int .i64 u'])).run Tryz.prog w= .ok (x==x'&&(y==y'&&(z==z'&&u==u'))) w:=by
 have hi:=fun(a b:Int) (w:World)=>run_equalIn_int (P:=Tryz.prog) w d 3 .i64 .i64 a b Tryz.underlying3
 have hp: ∀(cs:Array Value) (i:Nat) (v:Value) (w:World),cs[i]?=some v→(part 3 cs i).run Tryz.prog w= .ok v w:=fun cs i v w h=>by
  simp[part,Tryz.isAgg3,h]
 rw[Op.equalIn,Sem.run_bind,Tryz.runUnderlying150];simp only[Result.andThen_ok,Sem.run_bind,Tryz.sizeOf3];rw[show([0:4]:Std.Legacy.Range)=[0:4]from rfl];simp[Std.Legacy.Range.forIn_eq_forIn_range',List.range',hi,hp,Sem.run_bind];cases hx:(x==x')<;>cases hy:(y==y')<;>cases hz:(z==z')<;>cases hu:(u==u')<;>simp_all
theorem memo81_eq(x y z u v x' y' z' u' v':Int)(w:World):(Op.equal 272 (intsV [x,y,z,u,v]) (intsV [x',y',z',u',v'])).run Tryz.prog w= .ok (decide ([x,y,z,u,v]=[x',y',z',u',v'])) w:=by
 have ht:Tryz.prog.underlying 272=some (.struct (Tryz.prog.fieldsOf 272)):=by kernel_rfl
 have hp:Tryz.prog.stoodInHeld 272=false:=by kernel_rfl
 have hf : (Tryz.prog.fieldsOf 272).toList = [{ name := "heights", type := 150, offset := 0, embedded := true, tag := "", pkgPath := "dipworks/tide", byteOffset := 0 }, { name := "minute", type := 3, offset := 4, embedded := false, tag := "", pkgPath := "dipworks/tide", byteOffset := 32 }] := by kernel_rfl
 have h0:=run_equalIn_agg (P:=Tryz.prog) w 9999 272 #[.int .i64 x,.int .i64 y,.int .i64 z,.int .i64 u,.int .i64 v] #[.int .i64 x',.int .i64 y',.int .i64 z',.int .i64 u',.int .i64 v'] ht hp;rw[hf]at h0;have ha:=memo81_arr 9997 x y z u x' y' z' u' w;have hi:=run_equalIn_int (P:=Tryz.prog) w 9998 3 .i64 .i64 v v' Tryz.underlying3;have h1: ∀(a b c d e:Int),(part 150 #[.int .i64 a,.int .i64 b,.int .i64 c,.int .i64 d,.int .i64 e] 0).run Tryz.prog w= .ok (.agg #[.int .i64 a,.int .i64 b,.int .i64 c,.int .i64 d]) w:=fun a b c d e=>by
  simp[part,Tryz.isAgg150,Tryz.sizeOf150]
 have h2: ∀(a b c d e:Int),(part 3 #[.int .i64 a,.int .i64 b,.int .i64 c,.int .i64 d,.int .i64 e] 4).run Tryz.prog w= .ok (.int .i64 e) w:=fun a b c d e=>by
  simp[part,Tryz.isAgg3]
 have goal:(Op.equal 272 (intsV [x,y,z,u,v]) (intsV [x',y',z',u',v'])).run Tryz.prog w=(Op.equalIn (9999+1) 272 (.agg #[.int .i64 x,.int .i64 y,.int .i64 z,.int .i64 u,.int .i64 v]) (.agg #[.int .i64 x',.int .i64 y',.int .i64 z',.int .i64 u',.int .i64 v'])).run Tryz.prog w:=rfl;rw[goal,h0];simp[Op.eqFields,h1,h2,ha,hi];cases hx:(x==x')<;>cases hy:(y==y')<;>cases hz:(z==z')<;>cases hu:(u==u')<;>cases hv:(v==v')<;>simp_all
theorem memo81:MemoTy Tryz.prog 226 5:=by
 refine⟨272,3,_,Tryz.underlying226,Tryz.underlying272,fun a b=>by rfl,fun w=>Tryz.zeroValue3 w,?_,?_⟩
 ·intro b ks w hl;match ks,hl with
  |[x,y,z,u,v],_=>exact memo81_chk b x y z u v w
 ·intro ks ks' w hl hl';match ks,hl,ks',hl' with
  |[x,y,z,u,v],_,[x',y',z',u',v'],_=>exact memo81_eq ..
theorem cm116:CMapTy Tryz.prog 249:=⟨3,3,Tryz.underlying249,Tryz.underlying3,fun w=>Tryz.zeroValue3 w⟩
theorem meth155 (v : Value) (w : World) : (method (Tryz.prog.types.size + Made.depth) 293 v "dipworks/tide.fits").run Tryz.prog w = .ok (279, v) w := by kernel_rfl
theorem meth159 (v : Value) (w : World) : (method (Tryz.prog.types.size + Made.depth) 297 v "dipworks/tide.fits").run Tryz.prog w = .ok (280, v) w := by kernel_rfl
theorem ahead155 (v : Value) (w : World) : (nilAhead (Tryz.prog.types.size + Made.depth) 293 v "dipworks/tide.fits").run Tryz.prog w = .ok (some false) w := by kernel_rfl
theorem ahead159 (v : Value) (w : World) : (nilAhead (Tryz.prog.types.size + Made.depth) 297 v "dipworks/tide.fits").run Tryz.prog w = .ok (some false) w := by kernel_rfl
theorem eqg(t:Nat)(h:Tryz.prog.eqGuardType Tryz.prog.depth t=false)(op:BinOp)(x0 y0:Operand)(xs ys:List Int)(w:World):(eqGuard op t x0 y0 (intsV xs) (intsV ys)).run Tryz.prog w= .ok () w:=by
 unfold eqGuard intsV;cases op<;>simp[Sem.run_bind,h]
theorem part41a(a b:Int)(w:World):(part 3 #[.int .i64 a,.int .i64 b] 0).run Tryz.prog w= .ok (.int .i64 a) w:=by simp[part,Tryz.isAgg3]
theorem part41b(a b:Int)(w:World):(part 3 #[.int .i64 a,.int .i64 b] 1).run Tryz.prog w= .ok (.int .i64 b) w:=by simp[part,Tryz.isAgg3]
theorem eqIn41(d:Nat)(a b a' b':Int)(w:World):(Op.equalIn (d+2) 28 (.agg #[.int .i64 a,.int .i64 b]) (.agg #[.int .i64 a',.int .i64 b'])).run Tryz.prog w= .ok (a==a'&&b==b') w:=by
 have hi:=fun(a b:Int) (w:World)=>run_equalIn_int (P:=Tryz.prog) w d 3 .i64 .i64 a b Tryz.underlying3
 have ht:Tryz.prog.underlying 28=some (.struct (Tryz.prog.fieldsOf 28)):=by kernel_rfl
 have hp:Tryz.prog.stoodInHeld 28=false:=by kernel_rfl
 have hf : (Tryz.prog.fieldsOf 28).toList = [{ name := "Lo", type := 3, offset := 0, embedded := false, tag := "", pkgPath := "", byteOffset := 0 }, { name := "Hi", type := 3, offset := 1, embedded := false, tag := "", pkgPath := "", byteOffset := 8 }] := by kernel_rfl
 rw[run_equalIn_agg (P:=Tryz.prog) w (d+1) 28 _ _ ht hp,hf];simp[Op.eqFields,part41a,part41b,hi];cases hx:(a==a')<;>cases hy:(b==b')<;>simp_all
theorem eq41:EqTy Tryz.prog 28 2:=by
 refine⟨fun xs ys w hx hy=>?_,eqg 28 (by kernel_rfl)⟩;match xs,hx,ys,hy with
 |[a,b],_,[a',b'],_=>
  refine(eqIn41 9998 a b a' b' w).trans ?_;cases hx:(a==a')<;>cases hy:(b==b')<;>simp_all
theorem eq54:EqTy Tryz.prog 77 3:=by
 refine⟨fun xs ys w hx hy=>?_,eqg 77 (by kernel_rfl)⟩;match xs,hx,ys,hy with
 |[a,b,c],_,[a',b',c'],_=>
  have hi:=fun(a b:Int)=>run_equalIn_int (P:=Tryz.prog) w 9998 3 .i64 .i64 a b Tryz.underlying3
  have hs:=eqIn41 9997 b c b' c' w;have ht:Tryz.prog.underlying 77=some (.struct (Tryz.prog.fieldsOf 77)):=by kernel_rfl
  have hp:Tryz.prog.stoodInHeld 77=false:=by kernel_rfl
  have hf : (Tryz.prog.fieldsOf 77).toList = [{ name := "Minute", type := 3, offset := 0, embedded := false, tag := "", pkgPath := "", byteOffset := 0 }, { name := "Height", type := 28, offset := 1, embedded := false, tag := "", pkgPath := "", byteOffset := 8 }] := by kernel_rfl
  have p1: ∀(a b c:Int),(part 3 #[.int .i64 a,.int .i64 b,.int .i64 c] 0).run Tryz.prog w= .ok (.int .i64 a) w:=fun a b c=>by simp[part,Tryz.isAgg3]
  have p2: ∀(a b c:Int),(part 28 #[.int .i64 a,.int .i64 b,.int .i64 c] 1).run Tryz.prog w= .ok (.agg #[.int .i64 b,.int .i64 c]) w:=fun a b c=>by simp[part,Tryz.isAgg28,Tryz.sizeOf28]
  have h0:=run_equalIn_agg (P:=Tryz.prog) w 9999 77 #[.int .i64 a,.int .i64 b,.int .i64 c] #[.int .i64 a',.int .i64 b',.int .i64 c'] ht hp;rw[hf]at h0;refine Eq.trans (show(Op.equal 77 (intsV [a,b,c]) (intsV [a',b',c'])).run Tryz.prog w=(Op.equalIn (9999+1) 77 (.agg #[.int .i64 a,.int .i64 b,.int .i64 c]) (.agg #[.int .i64 a',.int .i64 b',.int .i64 c'])).run Tryz.prog w from rfl) (h0.trans ?_);simp[Op.eqFields,p1,p2,hs,hi];cases hx:(a==a')<;>cases hy:(b==b')<;>cases hz:(c==c')<;>simp_all
theorem eq62:EqTy Tryz.prog 195 4:=by
 refine⟨fun xs ys w hx hy=>?_,eqg 195 (by kernel_rfl)⟩;match xs,hx,ys,hy with
 |[a,b,c,d],_,[a',b',c',d'],_=>
  have hi:=fun(a b:Int)=>run_equalIn_int (P:=Tryz.prog) w 9998 3 .i64 .i64 a b Tryz.underlying3
  have hs:=eqIn41 9997 c d c' d' w;have ht:Tryz.prog.underlying 195=some (.struct (Tryz.prog.fieldsOf 195)):=by kernel_rfl
  have hp:Tryz.prog.stoodInHeld 195=false:=by kernel_rfl
  have hf : (Tryz.prog.fieldsOf 195).toList = [{ name := "Place", type := 3, offset := 0, embedded := false, tag := "", pkgPath := "", byteOffset := 0 }, { name := "Minute", type := 3, offset := 1, embedded := false, tag := "", pkgPath := "", byteOffset := 8 }, { name := "Depth", type := 28, offset := 2, embedded := false, tag := "", pkgPath := "", byteOffset := 16 }] := by kernel_rfl
  have p1: ∀(a b c d:Int),(part 3 #[.int .i64 a,.int .i64 b,.int .i64 c,.int .i64 d] 0).run Tryz.prog w= .ok (.int .i64 a) w:=fun a b c d=>by simp[part,Tryz.isAgg3]
  have p2: ∀(a b c d:Int),(part 3 #[.int .i64 a,.int .i64 b,.int .i64 c,.int .i64 d] 1).run Tryz.prog w= .ok (.int .i64 b) w:=fun a b c d=>by simp[part,Tryz.isAgg3]
  have p3: ∀(a b c d:Int),(part 28 #[.int .i64 a,.int .i64 b,.int .i64 c,.int .i64 d] 2).run Tryz.prog w= .ok (.agg #[.int .i64 c,.int .i64 d]) w:=fun a b c d=>by simp[part,Tryz.isAgg28,Tryz.sizeOf28]
  have h0:=run_equalIn_agg (P:=Tryz.prog) w 9999 195 #[.int .i64 a,.int .i64 b,.int .i64 c,.int .i64 d] #[.int .i64 a',.int .i64 b',.int .i64 c',.int .i64 d'] ht hp;rw[hf]at h0;refine Eq.trans (show(Op.equal 195 (intsV [a,b,c,d]) (intsV [a',b',c',d'])).run Tryz.prog w=(Op.equalIn (9999+1) 195 (.agg #[.int .i64 a,.int .i64 b,.int .i64 c,.int .i64 d]) (.agg #[.int .i64 a',.int .i64 b',.int .i64 c',.int .i64 d'])).run Tryz.prog w from rfl) (h0.trans ?_);simp[Op.eqFields,p1,p2,p3,hs,hi];cases hx:(a==a')<;>cases hy:(b==b')<;>cases hz:(c==c')<;>cases hu:(d==d')<;>simp_all
theorem meth85 (v : Value) (w : World) : (method (Tryz.prog.types.size + Made.depth) 191 v "dipworks/horse.takes").run Tryz.prog w = .ok (276, v) w := by kernel_rfl
theorem meth86 (v : Value) (w : World) : (method (Tryz.prog.types.size + Made.depth) 188 v "dipworks/horse.takes").run Tryz.prog w = .ok (275, v) w := by kernel_rfl
theorem eqIn37(d:Nat)(a b a' b':Int)(w:World):(Op.equalIn (d+2) 28 (.agg #[.int .i64 a,.int .i64 b]) (.agg #[.int .i64 a',.int .i64 b'])).run Tryz.prog w= .ok (a==a'&&b==b') w:=by
 have hi:=fun(a b:Int) (w:World)=>run_equalIn_int (P:=Tryz.prog) w d 3 .i64 .i64 a b Tryz.underlying3
 have ht:Tryz.prog.underlying 28=some (.struct (Tryz.prog.fieldsOf 28)):=by kernel_rfl
 have hp:Tryz.prog.stoodInHeld 28=false:=by kernel_rfl
 have hf : (Tryz.prog.fieldsOf 28).toList = [{ name := "Lo", type := 3, offset := 0, embedded := false, tag := "", pkgPath := "", byteOffset := 0 }, { name := "Hi", type := 3, offset := 1, embedded := false, tag := "", pkgPath := "", byteOffset := 8 }] := by kernel_rfl
 have p1: ∀(a b:Int),(part 3 #[.int .i64 a,.int .i64 b] 0).run Tryz.prog w= .ok (.int .i64 a) w:=fun a b=>by simp[part,Tryz.isAgg3]
 have p2: ∀(a b:Int),(part 3 #[.int .i64 a,.int .i64 b] 1).run Tryz.prog w= .ok (.int .i64 b) w:=fun a b=>by simp[part,Tryz.isAgg3]
 rw[run_equalIn_agg (P:=Tryz.prog) w (d+1) 28 _ _ ht hp,hf];simp[Op.eqFields,p1,p2,hi];cases hx:(a==a')<;>cases hy:(b==b')<;>simp_all
theorem eqIn54H(d':Nat)(a b c d a' b' c' e':Int)(w:World):(Op.equalIn (d'+3) 89 (.agg #[.int .i64 a,.int .i64 b,.int .i64 c,.int .i64 d]) (.agg #[.int .i64 a',.int .i64 b',.int .i64 c',.int .i64 e'])).run Tryz.prog w= .ok (a==a'&&(b==b'&&(c==c'&&d==e'))) w:=by
 have hi:=fun(a b:Int)=>run_equalIn_int (P:=Tryz.prog) w (d'+1) 3 .i64 .i64 a b Tryz.underlying3
 have hs:=eqIn37 d' c d c' e' w;have ht:Tryz.prog.underlying 89=some (.struct (Tryz.prog.fieldsOf 89)):=by kernel_rfl
 have hp:Tryz.prog.stoodInHeld 89=false:=by kernel_rfl
 have hf : (Tryz.prog.fieldsOf 89).toList = [{ name := "At", type := 3, offset := 0, embedded := false, tag := "", pkgPath := "", byteOffset := 0 }, { name := "Place", type := 3, offset := 1, embedded := false, tag := "", pkgPath := "", byteOffset := 8 }, { name := "Long", type := 28, offset := 2, embedded := false, tag := "", pkgPath := "", byteOffset := 16 }] := by kernel_rfl
 have p1: ∀(a b c d:Int),(part 3 #[.int .i64 a,.int .i64 b,.int .i64 c,.int .i64 d] 0).run Tryz.prog w= .ok (.int .i64 a) w:=fun a b c d=>by simp[part,Tryz.isAgg3]
 have p2: ∀(a b c d:Int),(part 3 #[.int .i64 a,.int .i64 b,.int .i64 c,.int .i64 d] 1).run Tryz.prog w= .ok (.int .i64 b) w:=fun a b c d=>by simp[part,Tryz.isAgg3]
 have p3: ∀(a b c d:Int),(part 28 #[.int .i64 a,.int .i64 b,.int .i64 c,.int .i64 d] 2).run Tryz.prog w= .ok (.agg #[.int .i64 c,.int .i64 d]) w:=fun a b c d=>by simp[part,Tryz.isAgg28,Tryz.sizeOf28]
 rw[run_equalIn_agg (P:=Tryz.prog) w (d'+2) 89 _ _ ht hp,hf];simp[Op.eqFields,p1,p2,p3,hs,hi];cases hx:(a==a')<;>cases hy:(b==b')<;>cases hz:(c==c')<;>cases hu:(d==e')<;>simp_all
theorem eq54H:EqTy Tryz.prog 89 4:=by
 refine⟨fun xs ys w hx hy=>?_,eqg 89 (by kernel_rfl)⟩;match xs,hx,ys,hy with
 |[a,b,c,d],_,[a',b',c',d'],_=>
  refine(eqIn54H 9997 a b c d a' b' c' d' w).trans ?_;cases hx:(a==a')<;>cases hy:(b==b')<;>cases hz:(c==c')<;>cases hu:(d==d')<;>simp_all
theorem chk97(b:Bool)(x y z u v:Int)(w:World):(Instr.checkKey b 10000 190 (intsV [x,y,z,u,v])).run Tryz.prog w= .ok () w:=by
 kernel_rfl
theorem eq97(x y z u v x' y' z' u' v':Int)(w:World):(Op.equal 190 (intsV [x,y,z,u,v]) (intsV [x',y',z',u',v'])).run Tryz.prog w= .ok (decide ([x,y,z,u,v]=[x',y',z',u',v'])) w:=by
 have ht:Tryz.prog.underlying 190=some (.struct (Tryz.prog.fieldsOf 190)):=by kernel_rfl
 have hp:Tryz.prog.stoodInHeld 190=false:=by kernel_rfl
 have hf : (Tryz.prog.fieldsOf 190).toList = [{ name := "HorseMove", type := 89, offset := 0, embedded := true, tag := "", pkgPath := "", byteOffset := 0 }, { name := "number", type := 3, offset := 4, embedded := false, tag := "", pkgPath := "dipworks/horse", byteOffset := 32 }] := by kernel_rfl
 have h0:=run_equalIn_agg (P:=Tryz.prog) w 9999 190 #[.int .i64 x,.int .i64 y,.int .i64 z,.int .i64 u,.int .i64 v] #[.int .i64 x',.int .i64 y',.int .i64 z',.int .i64 u',.int .i64 v'] ht hp;rw[hf]at h0;have ha:=eqIn54H 9996 x y z u x' y' z' u' w;have hi:=run_equalIn_int (P:=Tryz.prog) w 9998 3 .i64 .i64 v v' Tryz.underlying3;have h1: ∀(a b c d e:Int),(part 89 #[.int .i64 a,.int .i64 b,.int .i64 c,.int .i64 d,.int .i64 e] 0).run Tryz.prog w= .ok (.agg #[.int .i64 a,.int .i64 b,.int .i64 c,.int .i64 d]) w:=fun a b c d e=>by
  simp[part,Tryz.isAgg89,Tryz.sizeOf89]
 have h2: ∀(a b c d e:Int),(part 3 #[.int .i64 a,.int .i64 b,.int .i64 c,.int .i64 d,.int .i64 e] 4).run Tryz.prog w= .ok (.int .i64 e) w:=fun a b c d e=>by
  simp[part,Tryz.isAgg3]
 have goal:(Op.equal 190 (intsV [x,y,z,u,v]) (intsV [x',y',z',u',v'])).run Tryz.prog w=(Op.equalIn (9999+1) 190 (.agg #[.int .i64 x,.int .i64 y,.int .i64 z,.int .i64 u,.int .i64 v]) (.agg #[.int .i64 x',.int .i64 y',.int .i64 z',.int .i64 u',.int .i64 v'])).run Tryz.prog w:=rfl;rw[goal,h0];simp[Op.eqFields,h1,h2,ha,hi];cases hx:(x==x')<;>cases hy:(y==y')<;>cases hz:(z==z')<;>cases hu:(u==u')<;>cases hv:(v==v')<;>simp_all
def g94:GShape:=⟨.row,5,.num,1⟩
def g129:GShape:=⟨.num,1,.row,5⟩
theorem gm94:GMapTy Tryz.prog 185 g94:=by
 refine⟨190,3,Tryz.underlying185,fun w=>Tryz.zeroValue3 w,_,Tryz.underlying190,fun a b=>rfl,fun b ks w hl=>?_,fun ks ks' w hl hl'=>?_⟩
 ·match ks,hl with
  |[x,y,z,u,v],_=>exact chk97 b x y z u v w
 ·match ks,hl,ks',hl' with
  |[x,y,z,u,v],_,[x',y',z',u',v'],_=>exact eq97 ..
theorem gm129:GMapTy Tryz.prog 253 g129:=⟨3,190,Tryz.underlying253,fun w=>Tryz.zeroValue190 w,_,Tryz.underlying3,rfl,rfl⟩
theorem meth205 (v : Value) (w : World) : (method (Tryz.prog.types.size + Made.depth) 205 v "dipworks/serve.broken").run Tryz.prog w = .ok (277, v) w := by kernel_rfl
theorem meth206 (v : Value) (w : World) : (method (Tryz.prog.types.size + Made.depth) 206 v "dipworks/serve.broken").run Tryz.prog w = .ok (278, v) w := by kernel_rfl
theorem eq56:EqTy Tryz.prog 56 5:=by
 refine⟨fun xs ys w hx hy=>?_,eqg 56 (by kernel_rfl)⟩;match xs,hx,ys,hy with
 |[a,b,c,d,e],_,[a',b',c',d',e'],_=>
  have hi:=fun(a b:Int) (w:World)=>run_equalIn_int (P:=Tryz.prog) w 9998 3 .i64 .i64 a b Tryz.underlying3
  have ht:Tryz.prog.underlying 56=some (.struct (Tryz.prog.fieldsOf 56)):=by kernel_rfl
  have hp:Tryz.prog.stoodInHeld 56=false:=by kernel_rfl
  have hf : (Tryz.prog.fieldsOf 56).toList = [{ name := "Hut", type := 3, offset := 0, embedded := false, tag := "", pkgPath := "", byteOffset := 0 }, { name := "From", type := 3, offset := 1, embedded := false, tag := "", pkgPath := "", byteOffset := 8 }, { name := "To", type := 3, offset := 2, embedded := false, tag := "", pkgPath := "", byteOffset := 16 }, { name := "Least", type := 3, offset := 3, embedded := false, tag := "", pkgPath := "", byteOffset := 24 }, { name := "Most", type := 3, offset := 4, embedded := false, tag := "", pkgPath := "", byteOffset := 32 }] := by kernel_rfl
  have q0: ∀(a b c d e:Int) (w:World),(part 3 #[.int .i64 a,.int .i64 b,.int .i64 c,.int .i64 d,.int .i64 e] 0).run Tryz.prog w= .ok (.int .i64 a) w:=fun a b c d e w=>by simp[part,Tryz.isAgg3]
  have q1: ∀(a b c d e:Int) (w:World),(part 3 #[.int .i64 a,.int .i64 b,.int .i64 c,.int .i64 d,.int .i64 e] 1).run Tryz.prog w= .ok (.int .i64 b) w:=fun a b c d e w=>by simp[part,Tryz.isAgg3]
  have q2: ∀(a b c d e:Int) (w:World),(part 3 #[.int .i64 a,.int .i64 b,.int .i64 c,.int .i64 d,.int .i64 e] 2).run Tryz.prog w= .ok (.int .i64 c) w:=fun a b c d e w=>by simp[part,Tryz.isAgg3]
  have q3: ∀(a b c d e:Int) (w:World),(part 3 #[.int .i64 a,.int .i64 b,.int .i64 c,.int .i64 d,.int .i64 e] 3).run Tryz.prog w= .ok (.int .i64 d) w:=fun a b c d e w=>by simp[part,Tryz.isAgg3]
  have q4: ∀(a b c d e:Int) (w:World),(part 3 #[.int .i64 a,.int .i64 b,.int .i64 c,.int .i64 d,.int .i64 e] 4).run Tryz.prog w= .ok (.int .i64 e) w:=fun a b c d e w=>by simp[part,Tryz.isAgg3]
  have h0:=run_equalIn_agg (P:=Tryz.prog) w 9999 56 #[.int .i64 a,.int .i64 b,.int .i64 c,.int .i64 d,.int .i64 e] #[.int .i64 a',.int .i64 b',.int .i64 c',.int .i64 d',.int .i64 e'] ht hp;rw[hf]at h0;refine h0.trans ?_;simp[Op.eqFields,q0,q1,q2,q3,q4,hi];(repeat' split)<;>simp_all
theorem eqIn108(d:Nat)(a b a' b':Int)(w:World):(Op.equalIn (d+2) 108 (.agg #[.int .i64 a,.int .i64 b]) (.agg #[.int .i64 a',.int .i64 b'])).run Tryz.prog w= .ok (a==a'&&b==b') w:=by
 have hi:=fun(a b:Int) (w:World)=>run_equalIn_int (P:=Tryz.prog) w d 3 .i64 .i64 a b Tryz.underlying3
 have ht:Tryz.prog.underlying 108=some (.struct (Tryz.prog.fieldsOf 108)):=by kernel_rfl
 have hp:Tryz.prog.stoodInHeld 108=false:=by kernel_rfl
 have hf : (Tryz.prog.fieldsOf 108).toList = [{ name := "place", type := 3, offset := 0, embedded := false, tag := "", pkgPath := "dipworks/serve", byteOffset := 0 }, { name := "until", type := 3, offset := 1, embedded := false, tag := "", pkgPath := "dipworks/serve", byteOffset := 8 }] := by kernel_rfl
 have p1: ∀(a b:Int),(part 3 #[.int .i64 a,.int .i64 b] 0).run Tryz.prog w= .ok (.int .i64 a) w:=fun a b=>by simp[part,Tryz.isAgg3]
 have p2: ∀(a b:Int),(part 3 #[.int .i64 a,.int .i64 b] 1).run Tryz.prog w= .ok (.int .i64 b) w:=fun a b=>by simp[part,Tryz.isAgg3]
 rw[run_equalIn_agg (P:=Tryz.prog) w (d+1) 108 _ _ ht hp,hf];simp[Op.eqFields,p1,p2,hi];cases hx:(a==a')<;>cases hy:(b==b')<;>simp_all
theorem eqIn114(d':Nat)(a b c d e f g h a' b' c' d2 e' f' g' h':Int)(w:World):(Op.equalIn (d'+3) 114 (.agg #[.int .i64 a,.int .i64 b,.int .i64 c,.int .i64 d,.int .i64 e,.int .i64 f,.int .i64 g,.int .i64 h]) (.agg #[.int .i64 a',.int .i64 b',.int .i64 c',.int .i64 d2,.int .i64 e',.int .i64 f',.int .i64 g',.int .i64 h'])).run Tryz.prog w
  = .ok ((a==a'&&b==b')&&((c==c'&&d==d2)&&((e==e'&&f==f')&&(g==g'&&h==h')))) w:=by
 obtain⟨i,hi⟩: ∃i,Tryz.prog.info? 108=some i:=⟨_,Tryz.type108⟩;have h1:Tryz.prog.cellsOf 108=2:=by kernel_rfl
 have q:=fun(a b c d:Int) (w:World)=>eqIn108 d' a b c d w
 have p0: ∀(a b c d e f g h:Int) (w:World),(part 108 #[.int .i64 a,.int .i64 b,.int .i64 c,.int .i64 d,.int .i64 e,.int .i64 f,.int .i64 g,.int .i64 h] 0).run Tryz.prog w= .ok (.agg #[.int .i64 a,.int .i64 b]) w:=fun _ _ _ _ _ _ _ _ _=>by simp[part,Tryz.isAgg108,Tryz.sizeOf108]
 have p1: ∀(a b c d e f g h:Int) (w:World),(part 108 #[.int .i64 a,.int .i64 b,.int .i64 c,.int .i64 d,.int .i64 e,.int .i64 f,.int .i64 g,.int .i64 h] 2).run Tryz.prog w= .ok (.agg #[.int .i64 c,.int .i64 d]) w:=fun _ _ _ _ _ _ _ _ _=>by simp[part,Tryz.isAgg108,Tryz.sizeOf108]
 have p2: ∀(a b c d e f g h:Int) (w:World),(part 108 #[.int .i64 a,.int .i64 b,.int .i64 c,.int .i64 d,.int .i64 e,.int .i64 f,.int .i64 g,.int .i64 h] 4).run Tryz.prog w= .ok (.agg #[.int .i64 e,.int .i64 f]) w:=fun _ _ _ _ _ _ _ _ _=>by simp[part,Tryz.isAgg108,Tryz.sizeOf108]
 have p3: ∀(a b c d e f g h:Int) (w:World),(part 108 #[.int .i64 a,.int .i64 b,.int .i64 c,.int .i64 d,.int .i64 e,.int .i64 f,.int .i64 g,.int .i64 h] 6).run Tryz.prog w= .ok (.agg #[.int .i64 g,.int .i64 h]) w:=fun _ _ _ _ _ _ _ _ _=>by simp[part,Tryz.isAgg108,Tryz.sizeOf108]
 rw[run_equalIn_array w (d'+2) (t:=114) (e:=108) (n:=4) _ _ Tryz.underlying114 hi,h1];have hr:List.range 4=[0,1,2,3]:=rfl;rw[hr];simp[Op.eqItems,p0,p1,p2,p3,q];cases hx:(a==a'&&b==b')<;>cases hy:(c==c'&&d==d2)<;>cases hz:(e==e'&&f==f')<;>cases hu:(g==g'&&h==h')<;>simp_all
theorem eq116(z a b c d e f g h z' a' b' c' d' e' f' g' h':Int)(w:World):(Op.equal 116 (intsV [z,a,b,c,d,e,f,g,h]) (intsV [z',a',b',c',d',e',f',g',h'])).run Tryz.prog w= .ok (decide ([z,a,b,c,d,e,f,g,h]=[z',a',b',c',d',e',f',g',h'])) w:=by
 have ht:Tryz.prog.underlying 116=some (.struct (Tryz.prog.fieldsOf 116)):=by kernel_rfl
 have hp:Tryz.prog.stoodInHeld 116=false:=by kernel_rfl
 have hf : (Tryz.prog.fieldsOf 116).toList = [{ name := "at", type := 3, offset := 0, embedded := false, tag := "", pkgPath := "dipworks/serve", byteOffset := 0 }, { name := "stays", type := 114, offset := 1, embedded := true, tag := "", pkgPath := "dipworks/serve", byteOffset := 8 }] := by kernel_rfl
 have h0:=run_equalIn_agg (P:=Tryz.prog) w 9999 116 #[.int .i64 z,.int .i64 a,.int .i64 b,.int .i64 c,.int .i64 d,.int .i64 e,.int .i64 f,.int .i64 g,.int .i64 h] #[.int .i64 z',.int .i64 a',.int .i64 b',.int .i64 c',.int .i64 d',.int .i64 e',.int .i64 f',.int .i64 g',.int .i64 h'] ht hp;rw[hf]at h0;have ha:=eqIn114 9996 a b c d e f g h a' b' c' d' e' f' g' h' w;have hi:=run_equalIn_int (P:=Tryz.prog) w 9998 3 .i64 .i64 z z' Tryz.underlying3;have h1: ∀(z a b c d e f g h:Int),(part 3 #[.int .i64 z,.int .i64 a,.int .i64 b,.int .i64 c,.int .i64 d,.int .i64 e,.int .i64 f,.int .i64 g,.int .i64 h] 0).run Tryz.prog w= .ok (.int .i64 z) w:=fun _ _ _ _ _ _ _ _ _=>by simp[part,Tryz.isAgg3]
 have h2: ∀(z a b c d e f g h:Int),(part 114 #[.int .i64 z,.int .i64 a,.int .i64 b,.int .i64 c,.int .i64 d,.int .i64 e,.int .i64 f,.int .i64 g,.int .i64 h] 1).run Tryz.prog w= .ok (.agg #[.int .i64 a,.int .i64 b,.int .i64 c,.int .i64 d,.int .i64 e,.int .i64 f,.int .i64 g,.int .i64 h]) w:=fun _ _ _ _ _ _ _ _ _=>by simp[part,Tryz.isAgg114,Tryz.sizeOf114]
 have goal:(Op.equal 116 (intsV [z,a,b,c,d,e,f,g,h]) (intsV [z',a',b',c',d',e',f',g',h'])).run Tryz.prog w=(Op.equalIn (9999+1) 116 (.agg #[.int .i64 z,.int .i64 a,.int .i64 b,.int .i64 c,.int .i64 d,.int .i64 e,.int .i64 f,.int .i64 g,.int .i64 h]) (.agg #[.int .i64 z',.int .i64 a',.int .i64 b',.int .i64 c',.int .i64 d',.int .i64 e',.int .i64 f',.int .i64 g',.int .i64 h'])).run Tryz.prog w:=rfl;rw[goal,h0];simp[Op.eqFields,h1,h2,ha,hi];clear ht hp hf h0 ha hi h1 h2 goal;by_cases hz:z=z'
 ·subst hz;have q: ∀x y:Int,decide (x=y)=(x==y):=fun x y=>by by_cases h:x=y<;>simp[h]
  simp only[q,true_and,decide_true,Bool.decide_and,Bool.true_and];cases a==a'<;>cases b==b'<;>cases c==c'<;>cases d==d'<;>cases e==e'<;>cases f==f'<;>cases g==g'<;>cases h==h'<;>rfl
 ·simp[hz]
theorem chk116(v:Bool)(z a b c d e f g h:Int)(w:World):(Instr.checkKey v 10000 116 (intsV [z,a,b,c,d,e,f,g,h])).run Tryz.prog w= .ok () w:=by
 kernel_rfl
def g111:GShape:=⟨.row,9,.num,1⟩
theorem gm111:GMapTy Tryz.prog 111 g111:=by
 refine⟨116,3,Tryz.underlying111,fun w=>Tryz.zeroValue3 w,_,Tryz.underlying116,fun a b=>rfl,fun b ks w hl=>?_,fun ks ks' w hl hl'=>?_⟩
 ·match ks,hl with
  |[z,c,d,e,f,g,h,i,j],_=>exact chk116 b z c d e f g h i j w
 ·match ks,hl,ks',hl' with
  |[z,c,d,e,f,g,h,i,j],_,[z',c',d',e',f',g',h',i',j'],_=>exact eq116 ..
end Go.Proofs.YthnhlkflkidemaaGreatDoor
