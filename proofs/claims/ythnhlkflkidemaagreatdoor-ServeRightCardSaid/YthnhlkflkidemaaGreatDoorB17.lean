/-
  Parts: TiLk, TiA8, TiA9, TiB1, TiB2, TiB3, TiB5.
-/
import Derived.Test.YthnhlkflkidemaaGreatDoorB16
import Derived.WalkKit
set_option linter.unusedVariables false
set_option linter.unusedSimpArgs false
/-
 Contract: whether a look can be so. The one function here with a part of size zero: walked by the kit's tactics.
-/
namespace Go.Proofs.YthnhlkflkidemaaGreatDoor
open Go
set_option maxRecDepth 100000
set_option maxHeartbeats 4000000
theorem byteOf159(a b:Value)(W:World):(byteOf {block:=W.heap.size,off:=0}).run Tryz.prog (W.alloc (.cells #[a,b] 297))= .ok 0 (W.alloc (.cells #[a,b] 297)):=by
 have hh:(W.alloc (.cells #[a,b] 297)).heap[W.heap.size]?=some (.cells #[a,b] 297):=World.alloc_heap_new W _;have hs:(W.alloc (.cells #[a,b] 297)).shape? W.heap.size=some (297,2):=by
  unfold World.shape?;rw[hh];rfl
 have hb:byteOfCell Tryz.prog Tryz.prog.depth 297 0=some 0:=by kernel_rfl
 have hc:Tryz.prog.cellsOf 297=2:=by kernel_rfl
 unfold byteOf;simp only[Sem.run_bind,run_program,Result.andThen_ok];have hv:(noView {block:=W.heap.size,off:=0}).run Tryz.prog (W.alloc (.cells #[a,b] 297))= .ok () (W.alloc (.cells #[a,b] 297)):=by
  simp[noView,viewAt,shape,Sem.run_bind,Sem.run,hs,Result.andThen]
 rw[hv];simp[shape,Sem.run,hs,Result.andThen,hc,hb]
theorem partAt159(a b:Value)(W:World):(partAt {block:=W.heap.size,off:=0} 0 0).run Tryz.prog (W.alloc (.cells #[a,b] 297))= .ok {block:=W.heap.size,off:=0} (W.alloc (.cells #[a,b] 297)):=by
 have:=byteOf159 a b W;simp only[partAt,Sem.run_bind,this,Result.andThen_ok,Nat.add_zero,Sem.run_pure,if_true]
theorem c138(lo hi w s:Int)(hw:0≤w∧w≤1000)(hs:0≤s∧s≤1000)(W:World):Calls Tryz.prog 280 #[.agg #[.int .i64 lo,.int .i64 hi],.int .i64 w,.int .i64 s] W fun e W'=>e= .returned (.bool (inB (if w-s>0 then w-s else 0) lo hi))∧W.heap.size≤W'.heap.size∧(∀b,b<W.heap.size→W'.heap[b]?=W.heap[b]?)∧Go.Sy.SameEnv W W':=by
 have hpa:=partAt159 (.int .i64 lo) (.int .i64 hi) W;go_enter Tryz.func280,Tryz.ntmps280;go_wp2;all_goals
  have e1:((W.alloc (Obj.cells #[Value.int IntKind.i64 lo,Value.int IntKind.i64 hi] 297)).alloc (Obj.cells #[] 293)).heap=(W.heap.push (Obj.cells #[Value.int IntKind.i64 lo,Value.int IntKind.i64 hi] 297)).push (Obj.cells #[] 293):=rfl;refine bodyPost_ret (results_tmp rfl _ _ _) rfl ⟨?_,?_,?_,rfl,rfl⟩
  ·first|rfl|(refine congrArg (fun b=>Ending.returned (Value.bool b)) ?_;simp only[inB];rw[Bool.eq_iff_iff];simp;omega)
  ·rw[e1];simp only[Array.size_push];omega
  ·intro b hb;rw[e1,Array.getElem?_push,Array.getElem?_push];simp only[Array.size_push];rw[if_neg (by omega),if_neg (by omega)]
open Go.Sy in
theorem callP_of_calls{P:Program}{f:Nat}{args:List SV}{vs:List Value}{v:Value}{sv:SV}(ha: ∀η,denL η args=some vs)(hv: ∀η,den η sv=some v)
    (h: ∀W:World,Calls P f vs.toArray W fun e W'=>e= .returned v∧W.heap.size≤W'.heap.size∧(∀b,b<W.heap.size→W'.heap[b]?=W.heap[b]?)∧SameEnv W W'):CallP P f args [] (Ret sv []):=by
  intro η φ w0 Ef w us hs hd
  rw[ha η]at hd
  cases hd
  refine(h w).mono ?_
  rintro e w' ⟨rfl,h1,h2,h3⟩
  refine⟨.ret sv,[],η,φ,⟨rfl,rfl⟩,Nat.le_refl _,Pin.refl _ _,⟨v,hv η,rfl⟩,?_⟩
  exact { size := Nat.le_trans hs.size h1, env := hs.env.trans h3, keep := fun b hb he => (h2 b (Nat.lt_of_lt_of_le hb hs.size)).trans (hs.keep b hb he), dom := hs.dom, named := hs.named
          holds:=fun i o a e=>by simp at e,bnd:=fun i o a b e=>by simp at e,own:=fun i o a b e=>by simp at e,sep:=fun i j oi oj ai aj b _ e=>by simp at e}
open Go.Sy in
theorem u138(lo hi w s:Int)(hw:0≤w∧w≤1000)(hs:0≤s∧s≤1000):CallP Tryz.prog 280 [.agg [.int .i64 lo,.int .i64 hi],.int .i64 w,.int .i64 s] [] (Ret (.bool (inB (if w-s>0 then w-s else 0) lo hi)) []):=
 callP_of_calls (fun _ => rfl) (fun _ => rfl) fun W => c138 lo hi w s hw hs W
open Go Go.Sy
attribute [local irreducible] CallP CodeP Ent YieldP
def allBT(f:Nat→Bool):Nat→Bool
 |0=>true
 |n+1=>allBT f n&&f n
theorem allB_iff{f:Nat→Bool} : ∀{n:Nat},allBT f n=true↔ ∀i,i<n→f i=true
 |0=>by simp[allBT]
 |n+1=>by
  simp only[allBT,Bool.and_eq_true,allB_iff (n:=n)];constructor
  ·rintro⟨h1,h2⟩ i hi;rcases Nat.lt_or_ge i n with h|h
   ·exact h1 i h
   ·have:i=n:=by omega
    subst this;exact h2
  ·exact fun h=>⟨fun i hi=>h i (by omega),h n (by omega)⟩
def max0(x:Int):Int:=if x>0 then x else 0
def TD.fit(t:TD)(h:Nat→Int)(i:Nat)(n:Int):Bool:=inB (max0 (t.stand h (t.lm i)-n)) (t.llo i) (t.lhi i)
def TD.ok1(t:TD)(h:Nat→Int)(p:Nat)(n:Int):Bool:=allBT (fun i=>!decide (t.lp i=p)||t.fit h i n) t.nL
def TD.setF(t:TD)(h:Nat→Int)(p:Nat):Nat→Int
 |0=>0
 |c+1=>t.setF h p c+if t.ok1 h p (t.slo p+c)=true then 2^(t.slo p+c).toNat else 0
def TD.set(t:TD)(h:Nat→Int)(p:Nat):Int:=t.setF h p (t.shi p-t.slo p+1).toNat
theorem u137(w s:Int):CallP Tryz.prog 279 [.agg [],.int .i64 w,.int .i64 s] [] (Ret (.bool true) []):=by
 refine callR (E:=E) E_ok Tryz.func279 rfl ?_;refine aN ?_ ?_
 ·exact sA
 exact ent_tau [] ⟨qZ0,qZ1,rfl⟩
theorem u63(t:TD)(hv:t.Valid):CallP Tryz.prog 165 [.ptr 0 0] t.sh (Ret (.int .u64 (2^t.nL-1)) t.sh):=by
 have hL:=hv.2.2.1;have h6:(2:Int)^t.nL≤64:=by
  have:(2:Nat)^t.nL≤2^6:=Nat.pow_le_pow_right (by omega) hL;exact_mod_cast this
 have h0:(0:Int)<2^t.nL:=by
  have:(0:Nat)<2^t.nL:=Nat.pow_pos (by omega);exact_mod_cast this
 refine callR (E:=E) E_ok Tryz.func165 rfl ?_;refine aN ?_ ?_
 ·simp only[AllP,under,gB,wB,InR,and_true,true_and,List.nil_append,Option.getD_none,true_implies,forall_const,Int.toNat_natCast,Int.one_mul];have:(t.nL:Int)<(IntKind.u64.bits:Int):=by show(t.nL:Int)<64;omega
  omega
 refine ent_tau [0,1,2,3,4,5] ⟨qZ0,⟨rfl,?_,trivial⟩,rfl⟩;simp[ren]
theorem every_bitT: ∀n,n<7→ ∀i,i<n→bitOp .and .u64 (((2:Int)^n-1).fdiv (2^i)) 1=1:=by decide
theorem or_bit(a:Int)(k:Nat)(h0:0≤a)(h1:a<2^k)(hk:k<64):bitOp .or .u64 a (2^k)=a+2^k:=by
 obtain⟨b,rfl⟩:=Int.eq_ofNat_of_zero_le h0;have hb:b<2^k:=by exact_mod_cast h1
 have hk2:2^k<2^64:=Nat.pow_lt_pow_right (by omega) hk;have hk3:2^(k+1)≤2^64:=Nat.pow_le_pow_right (by omega) (by omega);have hor:b|||2^k=2^k+b:=by
  have:=Nat.two_pow_add_eq_or_of_lt hb 1;rw[Nat.mul_one]at this;rw[this,Nat.or_comm]
 have e1:((BitVec.ofInt 64 (b:Int))|||(BitVec.ofInt 64 ((2:Int)^k))).toNat=2^k+b:=by
  have e2:((2:Int)^k)=((2^k:Nat):Int):=by norm_cast
  rw[e2,BitVec.ofInt_natCast,BitVec.ofInt_natCast,BitVec.toNat_or,BitVec.toNat_ofNat,BitVec.toNat_ofNat,Nat.mod_eq_of_lt (by omega),Nat.mod_eq_of_lt hk2,hor]
 show IntKind.u64.wrap _=_;have e3:((BitVec.ofInt IntKind.u64.bits (b:Int))|||(BitVec.ofInt IntKind.u64.bits ((2:Int)^k))).toNat=2^k+b:=e1;rw[e3];have e4:((2^k+b:Nat):Int)=(b:Int)+2^k:=by push_cast;omega
 rw[e4,wrap_in];show 0≤_∧_≤(18446744073709551615:Int);have:(2^k+b:Nat)<2^64:=by rw[Nat.pow_succ]at hk3;omega
 omega
theorem setF_lt(t:TD)(h:Nat→Int)(p:Nat)(h0:0≤t.slo p): ∀c:Nat,0≤t.setF h p c∧t.setF h p c<2^(t.slo p+c).toNat
 |0=>by
  have:(0:Nat)<2^(t.slo p+(0:Nat)).toNat:=Nat.pow_pos (by omega);refine⟨Int.le_refl _,?_⟩;simp only[TD.setF];exact_mod_cast this
 |c+1=>by
  obtain⟨h1,h2⟩:=setF_lt t h p h0 c;have e:(t.slo p+((c+1:Nat):Int)).toNat=(t.slo p+c).toNat+1:=by omega
  rw[e,Int.pow_succ];simp only[TD.setF];have:(0:Int)≤2^(t.slo p+c).toNat:=by omega
  split<;>omega
theorem u106(t:TD)(hv:t.Valid)(h:Nat→Int)(hh:okH h)(hst: ∀i,i<t.nL→0≤t.stand h (t.lm i)∧t.stand h (t.lm i)≤60)(p:Nat)(hp:p<t.nS):
  CallP Tryz.prog 208 [.ptr 0 0,hgt h,.int .i64 p,.int .u64 (2^t.nL-1)] t.sh (Ret (.int .u64 (t.set h p)) t.sh):=by
 have hS:=hv.2.1;have hL:=hv.2.2.1;have hsp:=hv.2.2.2.2.1 p hp;simp only[TD.sandOk]at hsp;have ep:(0+(p:Int).toNat)=p:=by omega
 refine callR (E:=E) E_ok Tryz.func208 rfl ?_;refine aN ?_ ?_
 ·simp[AllP,under,gB,wB,inR_iff,IntKind.bits];omega
 rw[ep];refine loopP E_ok [0,2,3,5] (fun c:Nat=>[(8,.int .u64 (t.setF h p c)),(9,.int .i64 (t.slo p+c))]) (fun _ H=>H) (fun c=>t.slo p+c≤t.shi p+1) (fun c=>(t.shi p+1-t.slo p-c).toNat) 0 (by omega) ?_ ?_
 ·refine ent_tau [0,1,2,3,4,5,6] ⟨qZ0,?_,rfl⟩;(repeat' (first|exact tU|exact rfl|exact congrArg (SV.int .i64) (Int.natCast_succ _).symm|refine aN ?_ ?_));exact congrArg (SV.int .i64) (by simp)
 ·intro c hc;refine And.intro ?_ (And.intro (fun hn=>?_) (fun hn=>?_))
  ·simp[AllP,under,gB,wB,inR_iff,IntKind.bits];omega
  ·rw[ep]at hn;have hn':t.slo p+c≤t.shi p:=by simpa using hn
   refine aN ?_ ?_
   ·exact sA
   refine loopP E_ok [0,2,3,5,8,9,40,41] (fun i:Nat=>[(10,.bool (allBT (fun i=>!decide (t.lp i=p)||t.fit h i (t.slo p+c)) i)),(42,.int .i64 i)]) (fun _ H=>H) (fun i=>i≤t.nL) (fun i=>t.nL-i) 0 (Nat.zero_le _) ?_ ?_
   ·exact ent_tau [0,1,2,3,4,5,6] ⟨qZ0,qZ1,rfl⟩
   ·intro i hi;refine And.intro ?_ (And.intro (fun hlt=>?_) (fun hlt=>?_))
    ·exact sA
    ·have hlt':i<t.nL:=by simpa using hlt
     have ei:(0+(i:Int).toNat)=i:=by omega
     refine And.intro ?_ (And.intro (fun hx=>?_) (fun hx=>?_))
     ·simp[AllP,under,gB,wB,inR_iff,IntKind.bits];omega
     ·rw[ei]at hx⊢;have hxp:t.lp i=p:=by
       by_cases hq:t.lp i=p
       ·exact hq
       ·simp[hq]at hx
      have hmin:t.isMin (t.lm i):=(hv.2.2.2.2.2 i hlt').2.1;refine aN ?_ ?_
      ·exact sA
      refine drawP E_ok [6,7] pl208_11 (by kernel_rfl) ?_;refine And.intro (And.intro ?_ (And.intro (fun hf=>?_) (fun hf=>?_))) trivial
      ·exact sA
      ·refine(u74 t hv h hh (t.lm i) hmin).use [0,1,2,3,4,5] ?_ (qZ0) rfl;refine And.intro (And.intro ?_ (And.intro (fun hf2=>?_) (fun hf2=>?_))) trivial
       ·exact sA
       ·refine(u138 (t.llo i) (t.lhi i) (t.stand h (t.lm i)) (t.slo p+c) (by have:=hst i hlt';omega) (by omega)).use [] ?_ (qZ0) rfl;refine And.intro ?_ (And.intro rfl ?_)
        ·exact sA
        refine And.intro ?_ ⟨i+1,hlt',by omega,?_⟩
        ·simp[AllP,under,gB,wB,inR_iff,IntKind.bits];omega
        refine ent_tau [0,1,2,3,4,5,6] ⟨qZ0,?_,rfl⟩;(repeat' (first|exact tU|exact rfl|exact congrArg (SV.int .i64) (Int.natCast_succ _).symm|refine aN ?_ ?_));refine congrArg SV.bool ?_;have hf':allBT (fun i=>!decide (t.lp i=p)||t.fit h i (t.slo p+c)) i=true:=by simpa[gB,wB]using hf
        simp[allBT,hf',hxp,TD.fit,max0,gB,wB]
       ·exact absurd (hf.symm.trans hf2) (by simp)
      ·refine And.intro (And.intro ?_ (And.intro (fun hf2=>?_) (fun hf2=>?_))) trivial
       ·simp[AllP,under,gB,wB,inR_iff,IntKind.bits];simpa[gB,wB]using hf
       ·exact absurd (hf.symm.trans hf2) (by simp)
       ·refine And.intro ?_ (And.intro rfl ?_)
        ·simp[AllP,under,gB,wB,inR_iff,IntKind.bits];simpa[gB,wB]using hf
        refine And.intro ?_ ⟨i+1,hlt',by omega,?_⟩
        ·simp[AllP,under,gB,wB,inR_iff,IntKind.bits];omega
        refine ent_tau [0,1,2,3,4,5,6] ⟨qZ0,?_,rfl⟩;(repeat' (first|exact tU|exact rfl|exact congrArg (SV.int .i64) (Int.natCast_succ _).symm|refine aN ?_ ?_));refine congrArg SV.bool ?_;have hf':allBT (fun i=>!decide (t.lp i=p)||t.fit h i (t.slo p+c)) i=false:=by simpa[gB,wB]using hf
        simp[allBT,hf',gB,wB]
     ·rw[ei]at hx⊢;have hbit:=every_bitT t.nL (by omega) i hlt';have hxp: ¬t.lp i=p:=fun hq=>by
       simp[hq,hbit]at hx
      have hmin:t.isMin (t.lm i):=(hv.2.2.2.2.2 i hlt').2.1;refine aN ?_ ?_
      ·exact sA
      refine drawP E_ok [6,7] pl208_11 (by kernel_rfl) ?_;refine And.intro (And.intro ?_ (And.intro (fun hf=>?_) (fun hf=>?_))) trivial
      ·exact sA
      ·refine(u74 t hv h hh (t.lm i) hmin).use [0,1,2,3,4,5] ?_ (qZ0) rfl;refine And.intro (And.intro ?_ (And.intro (fun hf2=>?_) (fun hf2=>?_))) trivial
       ·exact sA
       ·refine(u137 _ _).use [] ?_ (qZ0) rfl;refine And.intro ?_ (And.intro rfl ?_)
        ·exact sA
        refine And.intro ?_ ⟨i+1,hlt',by omega,?_⟩
        ·simp[AllP,under,gB,wB,inR_iff,IntKind.bits];omega
        refine ent_tau [0,1,2,3,4,5,6] ⟨qZ0,?_,rfl⟩;(repeat' (first|exact tU|exact rfl|exact congrArg (SV.int .i64) (Int.natCast_succ _).symm|refine aN ?_ ?_));refine congrArg SV.bool ?_;have hf':allBT (fun i=>!decide (t.lp i=p)||t.fit h i (t.slo p+c)) i=true:=by simpa[gB,wB]using hf
        simp[allBT,hf',hxp,gB,wB]
       ·exact absurd (hf.symm.trans hf2) (by simp)
      ·refine And.intro (And.intro ?_ (And.intro (fun hf2=>?_) (fun hf2=>?_))) trivial
       ·simp[AllP,under,gB,wB,inR_iff,IntKind.bits];simpa[gB,wB]using hf
       ·exact absurd (hf.symm.trans hf2) (by simp)
       ·refine And.intro ?_ (And.intro rfl ?_)
        ·simp[AllP,under,gB,wB,inR_iff,IntKind.bits];simpa[gB,wB]using hf
        refine And.intro ?_ ⟨i+1,hlt',by omega,?_⟩
        ·simp[AllP,under,gB,wB,inR_iff,IntKind.bits];omega
        refine ent_tau [0,1,2,3,4,5,6] ⟨qZ0,?_,rfl⟩;(repeat' (first|exact tU|exact rfl|exact congrArg (SV.int .i64) (Int.natCast_succ _).symm|refine aN ?_ ?_));refine congrArg SV.bool ?_;have hf':allBT (fun i=>!decide (t.lp i=p)||t.fit h i (t.slo p+c)) i=false:=by simpa[gB,wB]using hf
        simp[allBT,hf',gB,wB]
    ·have hiL:i=t.nL:=by
      have: ¬(i<t.nL):=by simpa using hlt
      omega
     subst hiL;refine aN ?_ ?_
     ·exact sA
     refine And.intro trivial ?_;have hset:=setF_lt t h p hsp.1.1 c;have hp0:(0:Int)<2^(t.slo p+c).toNat:=by
      have:(0:Nat)<2^(t.slo p+c).toNat:=Nat.pow_pos (by omega);exact_mod_cast this
     have hp1:(2:Int)^(t.slo p+c).toNat≤2^60:=by
      have:(2:Nat)^(t.slo p+c).toNat≤2^60:=Nat.pow_le_pow_right (by omega) (by omega);exact_mod_cast this
     have e60:(2:Int)^60=1152921504606846976:=by decide
     rw[e60]at hp1;refine And.intro (fun hf=>?_) (fun hf=>?_)
     ·refine And.intro ?_ ⟨c+1,by omega,by omega,?_⟩
      ·simp only[AllP,under,gB,wB,InR,IntKind.bits,and_true,true_and,List.nil_append,Option.getD_none,true_implies,forall_const,Int.one_mul];omega
      ·refine ent_tau [0,1,2,3,4,5,6] ⟨qZ0,?_,rfl⟩;(repeat' (first|exact tU|exact rfl|exact congrArg (SV.int .i64) (Int.natCast_succ _).symm|refine aN ?_ ?_))
       ·refine congrArg (SV.int .u64) ?_;rw[Int.one_mul,or_bit _ _ hset.1 hset.2 (by omega)];have hok:t.ok1 h p (t.slo p+c)=true:=hf;simp only[TD.setF];rw[if_pos hok]
       ·refine congrArg (SV.int .i64) ?_;push_cast;omega
     ·refine And.intro ?_ ⟨c+1,by omega,by omega,?_⟩
      ·simp only[AllP,under,gB,wB,InR,IntKind.bits,and_true,true_and,List.nil_append,Option.getD_none,true_implies,forall_const];omega
      ·refine ent_tau [0,1,2,3,4,5,6] ⟨qZ0,?_,rfl⟩;(repeat' (first|exact tU|exact rfl|exact congrArg (SV.int .i64) (Int.natCast_succ _).symm|refine aN ?_ ?_))
       ·refine congrArg (SV.int .u64) ?_;have hok:t.ok1 h p (t.slo p+c)=false:=hf;simp only[TD.setF];rw[if_neg (by simp[hok])];simp
       ·refine congrArg (SV.int .i64) ?_;push_cast;omega
  ·rw[ep]at hn;have hn': ¬(t.slo p+c≤t.shi p):=by simpa using hn
   refine aN ?_ ?_
   ·exact sA
   refine And.intro trivial ?_;refine ent_tau [0,1,2,3,4,5] ⟨qZ0,⟨rfl,?_,trivial⟩,rfl⟩;refine congrArg (SV.int .u64) ?_;show t.setF h p c=t.set h p;rw[TD.set,show(t.shi p-t.slo p+1).toNat=c by omega]
structure Tr where
 h:Nat→Int
 s:Nat→Int
def trow(x:Tr):List SV:=[.int .i64 (x.h 0),.int .i64 (x.h 1),.int .i64 (x.h 2),.int .i64 (x.h 3),.int .u64 (x.s 0),.int .u64 (x.s 1),.int .u64 (x.s 2),.int .u64 (x.s 3)]
def TD.tr(t:TD)(h:Nat→Int):Tr:=⟨h,fun p=>if p<t.nS then t.set h p else 0⟩
def catF(f:Int→List Tr)(lo:Int):Nat→List Tr
 |0=>[]
 |c+1=>catF f lo c++f (lo+c)
def TD.tls(t:TD):Nat→(Nat→Int)→List Tr
 |0,h=>if allBT (fun p=>!decide (t.set h p=0)) t.nS=true then [t.tr h]else []
 |r+1,h=>catF (fun n=>t.tls r (upd h (t.nM-(r+1)) n)) (t.mlo (t.nM-(r+1))) (t.mhi (t.nM-(r+1))-t.mlo (t.nM-(r+1))+1).toNat
def TD.all(t:TD):List Tr:=t.tls t.nM (fun _=>0)
theorem okH_upd{h:Nat→Int}(hh:okH h){k:Nat}{x:Int}(hx:0≤x∧x≤60):okH (upd h k x):=fun i=>by
 simp only[upd];split
 ·exact hx
 ·exact hh i
theorem stand_range{t:TD}(hv:t.Valid){m:Int}(hm:t.isMin m){h:Nat→Int}(hh:okH h):0≤t.stand h m∧t.stand h m≤60:=by
 obtain⟨g1,g2,g3,g4⟩:=TD.stand_spec hv hm;simp only[TD.stand];generalize t.mi (t.nx m)-t.mi (t.nx m-1)=lg at*;generalize m-t.mi (t.nx m-1)=d at*;have hx0:0≤6*d:=by omega
 have hdm:=Int.mul_ediv_add_emod (6*d) lg;have hr0:=Int.emod_nonneg (6*d) (show lg≠0 by omega);have hr1:=Int.emod_lt_of_pos (6*d) (show 0<lg by omega);have hq0:=Int.ediv_nonneg hx0 (show 0≤lg by omega);have hq6:6*d/lg≤6:=Int.ediv_le_of_le_mul (by omega) (by omega);generalize 6*d/lg=q at*;generalize 6*d%lg=r at*;have ht:=tw_range q;have hts:=tw_step q;have hff:0≤tw q*lg+(if 0<r then(tw (q+1)-tw q)*r else 0)∧tw q*lg+(if 0<r then(tw (q+1)-tw q)*r else 0)≤12*lg:=by
  have h1:=Int.mul_nonneg ht.1 (show 0≤lg by omega);have h5:tw q*lg≤12*lg:=Int.mul_le_mul_of_nonneg_right (tw_range _).2 (by omega);split
  ·have h2:=Int.mul_nonneg hts.1 hr0;have h3:(tw (q+1)-tw q)*r≤(tw (q+1)-tw q)*lg:=Int.mul_le_mul_of_nonneg_left (by omega) hts.1;have h4:tw q*lg+(tw (q+1)-tw q)*lg=tw (q+1)*lg:=by rw[←Int.add_mul];congr 1;omega
   have h5:tw (q+1)*lg≤12*lg:=Int.mul_le_mul_of_nonneg_right (tw_range _).2 (by omega);omega
  ·omega
 generalize tw q*lg+(if 0<r then(tw (q+1)-tw q)*r else 0)=f at*;have a1:=hh (t.nx m-1);have a2:=hh (t.nx m);have m1:=Int.mul_nonneg a1.1 (show 0≤12*lg-f by omega);have m2:=Int.mul_nonneg a2.1 hff.1;have m3:h (t.nx m-1)*(12*lg-f)≤60*(12*lg-f):=Int.mul_le_mul_of_nonneg_right a1.2 (by omega);have m4:h (t.nx m)*f≤60*f:=Int.mul_le_mul_of_nonneg_right a2.2 hff.1;refine⟨Int.ediv_nonneg (by omega) (by omega),?_⟩;have:h (t.nx m-1)*(12*lg-f)+h (t.nx m)*f≤60*(12*lg):=by
  have:60*(12*lg-f)+60*f=60*(12*lg):=by omega
  omega
 exact Int.ediv_le_of_le_mul (by omega) this
def goodTr(_:TD)(x:Tr):Prop:=okH x.h∧ ∀p,0≤x.s p∧x.s p<2^61
theorem set_range{t:TD}(hv:t.Valid){h:Nat→Int}{p:Nat}(hp:p<t.nS):0≤t.set h p∧t.set h p<2^61:=by
 have hs:=hv.2.2.2.2.1 p hp;simp only[TD.sandOk]at hs;obtain⟨h1,h2⟩:=setF_lt t h p hs.1.1 (t.shi p-t.slo p+1).toNat;refine⟨h1,Int.lt_of_lt_of_le h2 ?_⟩;have:(2:Nat)^(t.slo p+((t.shi p-t.slo p+1).toNat:Int)).toNat≤2^61:=Nat.pow_le_pow_right (by omega) (by omega);exact_mod_cast this
theorem good_tr{t:TD}(hv:t.Valid){h:Nat→Int}(hh:okH h):goodTr t (t.tr h):=⟨hh,fun p=>by
 simp only[TD.tr];split
 ·rename_i hp;exact set_range hv hp
 ·exact⟨Int.le_refl _,by decide⟩⟩
theorem catF_mem{f:Int→List Tr}{lo:Int}{x:Tr} : ∀{c:Nat},x∈catF f lo c→ ∃j,j<c∧x∈f (lo+(j:Nat))
 |0,h=>by simp[catF]at h
 |c+1,h=>by
  simp only[catF,List.mem_append]at h;rcases h with h|h
  ·obtain⟨j,hj,hx⟩:=catF_mem h;exact⟨j,by omega,hx⟩
  ·exact⟨c,by omega,h⟩
theorem catF_len{f:Int→List Tr}{lo:Int}{B:Nat}(hB: ∀n,(f n).length≤B): ∀{c:Nat},(catF f lo c).length≤c*B
 |0=>by simp[catF]
 |c+1=>by
  simp only[catF,List.length_append];have h1:=catF_len hB (lo:=lo) (c:=c);have h2:=hB (lo+c);have:(c+1)*B=c*B+B:=by rw[Nat.add_mul,Nat.one_mul]
  omega
theorem tls_len{t:TD}(hv:t.Valid): ∀(r:Nat) (h:Nat→Int),r≤t.nM→(t.tls r h).length≤3^r
 |0,h,_=>by
  simp only[TD.tls];split<;>simp
 |r+1,h,hr=>by
  simp only[TD.tls];have hm:=hv.marks (i:=t.nM-(r+1)) (by omega);simp only[TD.markOk]at hm;have h1:=catF_len (f:=fun n=>t.tls r (upd h (t.nM-(r+1)) n)) (lo:=t.mlo (t.nM-(r+1))) (B:=3^r) (fun n=>tls_len hv r _ (by omega)) (c:=(t.mhi (t.nM-(r+1))-t.mlo (t.nM-(r+1))+1).toNat);have h2:(t.mhi (t.nM-(r+1))-t.mlo (t.nM-(r+1))+1).toNat*3^r≤3*3^r:=Nat.mul_le_mul_right _ (by omega);rw[Nat.pow_succ];omega
theorem all_len{t:TD}(hv:t.Valid):t.all.length≤81:=by
 have h1:=tls_len hv t.nM (fun _=>0) (Nat.le_refl _);have h2:3^t.nM≤3^4:=Nat.pow_le_pow_right (by omega) hv.1.2;have:t.all.length≤3^t.nM:=h1;omega
def findRF:Code→Option (Array Nat×Code×Code)
 | .rangeFunc _ ps a b=>some (ps,a,b)
 | .seq a b=>match findRF a with
  |some r=>some r
  |none=>findRF b
 | .block _ c=>findRF c
 | .loop c=>findRF c
 | .scope c=>findRF c
 |_=>none
noncomputable def asOf(f:Func):Code:=match f.body with
 |some c=>match findRF c with
  |some r=>r.2.1
  |none=> .skip
 |none=> .skip
noncomputable def bodyOf(f:Func):Code:=match f.body with
 |some c=>match findRF c with
  |some r=>r.2.2
  |none=> .skip
 |none=> .skip
def trv(x:Tr):SV:= .agg [.int .i64 (x.h 0),.int .i64 (x.h 1),.int .i64 (x.h 2),.int .i64 (x.h 3),.int .u64 (x.s 0),.int .u64 (x.s 1),.int .u64 (x.s 2),.int .u64 (x.s 3)]
noncomputable def L118(i:Nat):SObj:= .loopr [none,none,some (.ptr i 0),none,none,none,none,none,none,none,none,none,none] #[7] (asOf Tryz.f204) (bodyOf Tryz.f204) .ready none
def tr0:Tr:=⟨fun _=>0,fun _=>0⟩
def rows(g:List Tr)(k:Nat):List SV:=trow (g.getD k tr0)
noncomputable def V118(g:List Tr):SObj:= .vec 8 g.length (rows g)
theorem rows_app(g:List Tr)(x:Tr)(k:Nat)(hk:k<g.length):rows (g++[x]) k=rows g k:=by
 simp[rows,List.getD_eq_getElem?_getD,List.getElem?_append,hk]
theorem rows_last(g:List Tr)(x:Tr):rows (g++[x]) g.length=trow x:=by
 simp[rows,List.getD_eq_getElem?_getD]
theorem y118(g:List Tr)(x:Tr)(hg:g.length≤1000):YieldP Tryz.prog 0 [trv x] [some (L118 1),some (V118 g)] (Ret (.bool true) [some (L118 1),some (V118 (g++[x]))]):=by
 refine YieldP.ent (YieldP.openVec (i:=1) rfl (fun h0=>?_) (fun h0 cap hc1 hc2=>?_))
 ·have hnil:g=[]:=List.eq_nil_of_length_eq_zero h0;subst hnil;refine roundP E_ok rfl rfl fun l=>?_
  refine aN ?_ ?_
  ·simp[AllP,gObs,ldG,under,gB,wB,ti154]
  intro cap hc1 hc2;have hc1:1≤cap:=hc1;refine aN ?_ ?_
  ·simp[AllP,gObs,ldG,under,gB,wB,ti154]
  refine⟨_,_,⟨rfl,rfl⟩,?_⟩;refine Ent.trans (ent_tau (t:=⟨[some (none,.bool true)],[some (L118 1),some (.cells [.slice 2 8 0 1 cap]),some (.arr 8 1 cap (rows [x]))],[]⟩) [0,1,4] ⟨?_,qZ1,rfl⟩) ?_
  ·(repeat' (first|exact tU|exact rfl|exact fun _ _=>rfl|exact Or.inl rfl|refine aN ?_ ?_));intro k hk;have hk:k<1:=hk;have:k=0:=by omega
   subst this;rfl
  refine Ent.trans (vecClose (i:=1) (j:=2) rfl rfl (by omega) hc2) ?_;exact ent_tau [0,1] ⟨qZ0,qZ1,rfl⟩
 ·refine roundP E_ok rfl rfl fun l=>?_
  refine aN ?_ ?_
  ·refine⟨Nat.le_refl _,Nat.le_refl _,Nat.le_refl _,?_,fun k hk=>?_,hc2,trivial⟩
   ·show(g.length+1)*64≤140737488355328;omega
   ·have:k=0:=by omega
    subst this;rfl
  intro cap' hc1' hc2';have hc1':g.length+1≤cap':=hc1';refine aN ?_ ?_
  ·simp[AllP,gObs,ldG,under,gB,wB,ti154]
  refine⟨_,_,⟨rfl,rfl⟩,?_⟩;refine Ent.trans (ent_tau (t:=⟨[some (none,.bool true)],[some (L118 1),some (.cells [.slice 2 8 0 (g.length+1) cap']),some (.arr 8 (g.length+1) cap' (rows (g++[x])))],[]⟩) [0,1,5] ⟨?_,qZ1,rfl⟩) ?_
  ·(repeat' (first|exact tU|exact rfl|exact fun _ _=>rfl|exact Or.inl rfl|refine aN ?_ ?_));intro k hk;have hk:k<g.length+1:=hk;rcases Nat.lt_or_ge k g.length with h1|h1
   ·rw[rows_app g x k h1];show selL (decide (k<g.length)) (rows g k) _=_;rw[decide_eq_true h1,selL_true];rfl
   ·have:k=g.length:=by omega
    subst this;rw[rows_last];show selL (decide (g.length<g.length)) (rows g g.length) _=_;rw[decide_eq_false (by omega),selL_false,Nat.sub_self];rfl
  refine Ent.trans (vecClose (i:=1) (j:=2) rfl rfl (by omega) hc2') ?_;refine ent_tau [0,1] ⟨?_,qZ1,rfl⟩;(repeat' (first|exact tU|exact rfl|exact fun _ _=>rfl|exact Or.inl rfl|refine aN ?_ ?_));simp
noncomputable def H104(t:TD)(g:List Tr):SHeap:=[some (.roc [.osl t.bM 1 3 t.nM t.cM,.osl t.bS 2 2 t.nS t.cS,.osl t.bL 3 4 t.nL t.cL,.map 4]),
 some (.roa 3 t.nM (row3 t.mi t.mlo t.mhi)),some (.roa 2 t.nS (row2 t.slo t.shi)),some (.roa 4 t.nL (row4 t.lp t.lm t.llo t.lhi)),some (.memo 5 t.F []),
 some (.glob 1 [.int .i64 0,.int .i64 1,.int .i64 3,.int .i64 6,.int .i64 9,.int .i64 11,.int .i64 12]),
 some (.roc [.ptr 0 0]),some (.roc [.fn (.func 206) [] [.ptr 6 0,.ptr 7 0,.ptr 8 0,.ptr 9 0]]),some (.roc [.int .u64 (2^t.nL-1)]),some (.roc [.yld 10]),
 some (L118 11),some (V118 g)]
theorem catF_mono{f:Int→List Tr}{lo:Int}{a b:Nat}(h:a≤b):(catF f lo a).length≤(catF f lo b).length:=by
 induction h with
 |refl=>exact Nat.le_refl _
 |step _ ih=>simp only[catF,List.length_append];omega
theorem cell_at(i:Nat)(hi:i<4)(a b c d v:Int):([if 0=(i:Int).toNat then v else a,if 1=(i:Int).toNat then v else b,if 2=(i:Int).toNat then v else c,if 3=(i:Int).toNat then v else d]:List Int).getD (i:Int).toNat 0=v:=by
 have:i=0∨i=1∨i=2∨i=3:=by omega
 rcases this with rfl|rfl|rfl|rfl<;>simp
theorem u104(t:TD)(hv:t.Valid): ∀(r:Nat) (h:Nat→Int) (g:List Tr),r≤t.nM→okH h→g.length+(t.tls r h).length≤1000→
  CallP Tryz.prog 206 [hgt h,.int .i64 ((t.nM-r:Nat)),.ptr 6 0,.ptr 7 0,.ptr 8 0,.ptr 9 0] (H104 t g) (Ret (.bool true) (H104 t (g++t.tls r h))):=by
 intro r;have hM:=hv.1;have hS:=hv.2.1;have hst: ∀(h:Nat→Int),okH h→ ∀i,i<t.nL→0≤t.stand h (t.lm i)∧t.stand h (t.lm i)≤60:=fun h hh i hi=>stand_range hv (hv.2.2.2.2.2 i hi).2.1 hh
 induction r with
 |zero=>
  intro h g hr hh hlen;refine callR (E:=E) E_ok Tryz.func206 rfl ?_;refine And.intro ?_ (And.intro (fun hc=>?_) (fun hc=>?_))
  ·exact sA
  ·simp at hc
  ·refine aN ?_ ?_
   ·exact sA
   refine loopP E_ok [0,1,2,3,4,5,6,11,62,63] (fun i:Nat=>[(64,.int .i64 i)]) (fun i H=>H.set 13 (some (.cells [.int .i64 (h 0),.int .i64 (h 1),.int .i64 (h 2),.int .i64 (h 3),.int .u64 (if 0<i then t.set h 0 else 0),.int .u64 (if 1<i then t.set h 1 else 0),.int .u64 (if 2<i then t.set h 2 else 0),.int .u64 (if 3<i then t.set h 3 else 0)])))
    (fun i=>i≤t.nS∧ ∀j,j<i→t.set h j≠0) (fun i=>t.nS-i) 0 ⟨Nat.zero_le _,fun j hj=>by omega⟩ ?_ ?_
   ·exact ent_tau [0,1,2,3,4,5,6,7,8,9,10,11,12,13] ⟨qZ0,qZ1,rfl⟩
   ·rintro i ⟨hi,hall⟩;refine And.intro ?_ (And.intro (fun hlt=>?_) (fun hlt=>?_))
    ·exact sA
    ·have hlt':i<t.nS:=by simpa using hlt
     refine aN ?_ ?_
     ·exact sA
     refine(u106 t hv h hh (hst h hh) i hlt').use [0,1,2,3,4,5] ?_ (qZ0) rfl;refine And.intro ?_ (And.intro (fun hz=>?_) (fun hz=>?_))
     ·simp[AllP,under,gB,wB,inR_iff,IntKind.bits];omega
     ·rw[cell_at i (by omega)]at hz;have hz':t.set h i=0:=by simpa using hz
      have e0:t.tls 0 h=[]:=by
       have: ¬allBT (fun p=>!decide (t.set h p=0)) t.nS=true:=fun hx=>by
        have:=allB_iff.1 hx i hlt';simp[hz']at this
       simp only[TD.tls];rw[if_neg this]
      rw[e0,List.append_nil];refine aN ?_ ?_
      ·exact sA
      refine And.intro trivial ?_;exact ent_tau [0,1,2,3,4,5,6,7,8,9,10,11] ⟨qZ0,qZ1,rfl⟩
     ·rw[cell_at i (by omega)]at hz;have hz': ¬t.set h i=0:=by simpa using hz
      refine And.intro ?_ ⟨i+1,⟨hlt',fun j hj=>?_⟩,by omega,?_⟩
      ·simp[AllP,under,gB,wB,inR_iff,IntKind.bits];omega
      ·rcases Nat.lt_or_ge j i with h1|h1
       ·exact hall j h1
       ·have:j=i:=by omega
        subst this;exact hz'
      ·refine ent_tau [0,1,2,3,4,5,6,7,8,9,10,11,12,13] ⟨?_,qZ1,rfl⟩;(repeat' (first|exact tU|exact rfl|exact fun _ _=>rfl|exact Or.inl rfl|refine aN ?_ ?_));have:i=0∨i=1∨i=2∨i=3:=by omega
       rcases this with rfl|rfl|rfl|rfl<;>simp[renL,ren]<;>rfl
    ·have hiL:i=t.nS:=by
      have: ¬(i<t.nS):=by simpa using hlt
      omega
     subst hiL;have hg:g.length≤1000:=by omega
     have hall':allBT (fun p=>!decide (t.set h p=0)) t.nS=true:=allB_iff.2 fun j hj=>by simp[hall j hj]
     have e0:t.tls 0 h=[t.tr h]:=by
      simp only[TD.tls];rw[if_pos hall']
     rw[e0];refine aN ?_ ?_
     ·exact sA
     refine And.intro trivial ?_;refine(y118 g (t.tr h) hg).use [10,11] ?_ (qZ0) rfl;refine aN ?_ ?_
     ·exact sA
     exact ent_tau [0,1,2,3,4,5,6,7,8,9,10,11] ⟨qZ0,qZ1,rfl⟩
 |succ r ih=>
  intro h g hr hh hlen;have hk4:t.nM-(r+1)<4:=by omega
  have hkM:t.nM-(r+1)<t.nM:=by omega
  have hm:=hv.marks hkM;simp only[TD.markOk]at hm;have hk1:t.nM-(r+1)+1=t.nM-r:=by omega
  have htl:t.tls (r+1) h=catF (fun n=>t.tls r (upd h (t.nM-(r+1)) n)) (t.mlo (t.nM-(r+1))) (t.mhi (t.nM-(r+1))-t.mlo (t.nM-(r+1))+1).toNat:=rfl;rw[htl]at hlen⊢;generalize hk:t.nM-(r+1)=k at*;have ek:(0+(k:Int).toNat)=k:=by omega
  refine callR (E:=E) E_ok Tryz.func206 rfl ?_;refine And.intro ?_ (And.intro (fun hc=>?_) (fun hc=>?_))
  ·exact sA
  ·refine aN ?_ ?_
   ·simp[AllP,under,gB,wB,inR_iff,IntKind.bits];omega
   rw[ek];refine loopP E_ok [0,1,2,3,4,5,6,9] (fun j:Nat=>[(10,.int .i64 (t.mlo k+j))]) (fun j H=>H.set 11 (some (V118 (g++catF (fun n=>t.tls r (upd h k n)) (t.mlo k) j))))
    (fun j=>t.mlo k+j≤t.mhi k+1) (fun j=>(t.mhi k+1-t.mlo k-j).toNat) 0 (by omega) ?_ ?_
   ·refine ent_tau [0,1,2,3,4,5,6,7,8,9,10,11,12] ⟨?_,?_,rfl⟩
    ·(repeat' (first|exact tU|exact rfl|exact fun _ _=>rfl|exact Or.inl rfl|refine aN ?_ ?_))
     ·simp[catF]
     ·intro x hx;simp only[catF,List.append_nil];rfl
    ·(repeat' (first|exact tU|exact rfl|exact congrArg (SV.int .i64) (Int.natCast_succ _).symm|refine aN ?_ ?_));exact congrArg (SV.int .i64) (by simp)
   ·intro j hj;refine And.intro ?_ (And.intro (fun hn=>?_) (fun hn=>?_))
    ·simp[AllP,under,gB,wB,inR_iff,IntKind.bits];omega
    ·rw[ek]at hn;have hn':t.mlo k+j≤t.mhi k:=by simpa using hn
     have hsub:(catF (fun n=>t.tls r (upd h k n)) (t.mlo k) (j+1)).length≤(catF (fun n=>t.tls r (upd h k n)) (t.mlo k) (t.mhi k-t.mlo k+1).toNat).length:=catF_mono (by omega);have hcat:catF (fun n=>t.tls r (upd h k n)) (t.mlo k) (j+1)=catF (fun n=>t.tls r (upd h k n)) (t.mlo k) j++t.tls r (upd h k (t.mlo k+j)):=rfl;have hl2:(g++catF (fun n=>t.tls r (upd h k n)) (t.mlo k) j).length+(t.tls r (upd h k (t.mlo k+j))).length≤1000:=by
      rw[hcat,List.length_append]at hsub;rw[List.length_append];omega
     have ihx:=ih (upd h k (t.mlo k+j)) (g++catF (fun n=>t.tls r (upd h k n)) (t.mlo k) j) (by omega) (okH_upd hh (by omega)) hl2;have e1:((t.nM-r:Nat):Int)=(k:Int)+1:=by omega
     rw[e1]at ihx;refine aN ?_ ?_
     ·exact sA
     refine drawP E_ok [] pl206_6 (by kernel_rfl) ?_;refine And.intro (And.intro ?_ ?_) trivial
     ·simp[AllP,under,gB,wB,inR_iff,IntKind.bits];omega
     refine(u105 h k hk4 (t.mlo k+j)).use [] ?_ (qZ0) rfl;refine And.intro (And.intro ?_ ?_) trivial
     ·exact sA
     refine(ihx).use [0,1,2,3,4,5,6,7,8,9,10,11] ?_ (qZ0) rfl;refine And.intro ?_ (And.intro rfl ?_)
     ·exact sA
     refine And.intro ?_ (And.intro (fun hb=>?_) (fun hb=>?_))
     ·exact sA
     ·simp at hb
     ·refine And.intro ?_ ⟨j+1,by omega,by omega,?_⟩
      ·simp[AllP,under,gB,wB,inR_iff,IntKind.bits];omega
      ·refine ent_tau [0,1,2,3,4,5,6,7,8,9,10,11,12] ⟨?_,?_,rfl⟩
       ·(repeat' (first|exact tU|exact rfl|exact fun _ _=>rfl|exact Or.inl rfl|refine aN ?_ ?_))
        ·simp[catF]
        ·intro x hx;rw[hcat,←List.append_assoc];rfl
       ·(repeat' (first|exact tU|exact rfl|exact congrArg (SV.int .i64) (Int.natCast_succ _).symm|refine aN ?_ ?_));exact congrArg (SV.int .i64) (by push_cast;omega)
    ·rw[ek]at hn;have hn': ¬(t.mlo k+j≤t.mhi k):=by simpa using hn
     have ej:(t.mhi k-t.mlo k+1).toNat=j:=by omega
     rw[ej];refine aN ?_ ?_
     ·exact sA
     refine And.intro trivial ?_;exact ent_tau [0,1,2,3,4,5,6,7,8,9,10,11] ⟨qZ0,qZ1,rfl⟩
  ·simp at hc;omega
noncomputable def H103(t:TD)(g:List Tr):SHeap:=[some (.roc [.osl t.bM 1 3 t.nM t.cM,.osl t.bS 2 2 t.nS t.cS,.osl t.bL 3 4 t.nL t.cL,.map 4]),
 some (.roa 3 t.nM (row3 t.mi t.mlo t.mhi)),some (.roa 2 t.nS (row2 t.slo t.shi)),some (.roa 4 t.nL (row4 t.lp t.lm t.llo t.lhi)),some (.memo 5 t.F []),
 some (.glob 1 [.int .i64 0,.int .i64 1,.int .i64 3,.int .i64 6,.int .i64 9,.int .i64 11,.int .i64 12]),
 some (.roc [.ptr 0 0]),some (.roc [.int .u64 (2^t.nL-1)]),some (L118 9),some (V118 g)]
theorem u103(t:TD)(hv:t.Valid)(g:List Tr)(hg:g.length≤100):CallP Tryz.prog 205 [.yld 8,.ptr 6 0,.ptr 7 0] (H103 t g) (Ret (.tup []) (H103 t (g++t.all))):=by
 have hl:=all_len hv;have h0:okH (fun _=>0):=fun i=>⟨Int.le_refl _,by show(0:Int)≤60;decide⟩
 have hc:=u104 t hv t.nM (fun _=>0) g (Nat.le_refl _) h0 (by show g.length+t.all.length≤1000;omega);have e:((t.nM-t.nM:Nat):Int)=0:=by simp
 rw[e]at hc;refine callR (E:=E) E_ok Tryz.func205 rfl ?_;refine aN ?_ ?_
 ·exact sA
 refine(hc).use [0,1,2,3,4,5,6,11,7,10,8,9] ?_ (qZ0) rfl;refine aN ?_ ?_
 ·exact sA
 exact ent_tau [0,1,2,3,4,5,6,7,8,9] ⟨qZ0,qZ1,rfl⟩
noncomputable def H64(t:TD):SHeap:=[some (.roc [.osl t.bM 1 3 t.nM t.cM,.osl t.bS 2 2 t.nS t.cS,.osl t.bL 3 4 t.nL t.cL,.map 4]),
 some (.roa 3 t.nM (row3 t.mi t.mlo t.mhi)),some (.roa 2 t.nS (row2 t.slo t.shi)),some (.roa 4 t.nL (row4 t.lp t.lm t.llo t.lhi)),some (.memo 5 t.F []),
 some (.glob 1 [.int .i64 0,.int .i64 1,.int .i64 3,.int .i64 6,.int .i64 9,.int .i64 11,.int .i64 12]),
 some (.roc [.ptr 0 0]),some (.roc [.int .u64 (2^t.nL-1)])]
def KSl(base:SHeap)(i:Nat)(g:List Tr):CE→SHeap→Prop:=fun ce h'=>
 (g=[]∧ce= .ret .snil∧h'=base)∨(0<g.length∧ ∃cap,g.length≤cap∧cap≤9223372036854775807∧ce= .ret (.slice i 8 0 g.length cap)∧h'=base++[some (.arr 8 g.length cap (rows g))])
theorem u118(t:TD)(hv:t.Valid):CallP Tryz.prog 204 [.snil,.fn (.func 205) [] [.ptr 6 0,.ptr 7 0]] (H64 t) (KSl (H64 t) 8 t.all):=by
 refine callM (E:=E) E_ok Tryz.func204 rfl ?_;refine aN ?_ ?_
 ·exact sA
 refine rangeP E_ok rfl rfl ?_;refine CallP.pre (vecNil (i:=8) 8 (rows []) rfl) (CallP.postVec (i:=8) ?_);refine(u103 t hv [] (by simp)).use [0,1,2,3,4,5,6,7,10,8] ?_ (qZ0) rfl;refine⟨_,_,_,rfl,fun h0=>?_,fun h0 cap hc1 hc2=>?_⟩
 ·refine⟨by decide,?_⟩;refine aN ?_ ?_
  ·exact sA
  refine And.intro (fun o h=>h) ?_;refine aN ?_ ?_
  ·exact sA
  have e:t.all=[]:=List.eq_nil_of_length_eq_zero (by simpa using h0);refine⟨_,_,.inl ⟨e,rfl,rfl⟩,?_⟩;exact ent_tau [0,1,2,3,4,5,6,7] ⟨qZ0,qZ1,rfl⟩
 ·refine⟨by decide,?_⟩;refine aN ?_ ?_
  ·exact sA
  refine And.intro (fun o h=>h) ?_;refine aN ?_ ?_
  ·exact sA
  rw[List.nil_append]at h0 hc1;refine⟨_,_,.inr ⟨h0,cap,hc1,hc2,rfl,rfl⟩,?_⟩;refine ent_tau [0,1,2,3,4,5,6,7,11] ⟨?_,?_,rfl⟩
  ·(repeat' (first|exact tU|exact rfl|exact fun _ _=>rfl|exact Or.inl rfl|refine aN ?_ ?_))
  ·(repeat' (first|exact tU|exact rfl|exact congrArg (SV.int .i64) (Int.natCast_succ _).symm|refine aN ?_ ?_))
theorem u97(t:TD)(hv:t.Valid):CallP Tryz.prog 163 [.fn (.func 205) [] [.ptr 6 0,.ptr 7 0]] (H64 t) (KSl (H64 t) 8 t.all):=by
 refine callK (E:=E) E_ok Tryz.func163 rfl ?_;refine aN ?_ ?_
 ·exact sA
 refine CallP.frame (u118 t hv) [0,1,2,3,4,5,6,7] (qZ0) (apartB_ok rfl) rfl ?_;rintro ce h' (⟨h0,rfl,rfl⟩|⟨h0,cap,hc1,hc2,rfl,rfl⟩)
 ·refine⟨ownB_ok rfl,?_⟩;refine aN ?_ ?_
  ·exact sA
  refine⟨_,_,.inl ⟨h0,rfl,rfl⟩,?_⟩;exact ent_tau [0,1,2,3,4,5,6,7] ⟨qZ0,qZ1,rfl⟩
 ·refine⟨ownB_ok rfl,?_⟩;refine aN ?_ ?_
  ·exact sA
  refine⟨_,_,.inr ⟨h0,cap,hc1,hc2,rfl,rfl⟩,?_⟩;exact ent_tau [0,1,2,3,4,5,6,7,8] ⟨qZ0,qZ1,rfl⟩
theorem u64(so:Int):CallP Tryz.prog 164 [.ptr 0 0,.int .u64 so] [some .dead] (Ret (.fn (.func 205) [] [.ptr 1 0,.ptr 2 0]) [some .dead,some (.cells [.ptr 0 0]),some (.cells [.int .u64 so])]):=by
 refine callR (E:=E) E_ok Tryz.func164 rfl ?_;refine aN ?_ ?_
 ·exact sA
 exact ent_tau [0,1,2] ⟨qZ0,qZ1,rfl⟩
theorem u48(t:TD)(hv:t.Valid):CallP Tryz.prog 102 [.ptr 0 0] t.sh (fun ce h'=>
  (t.all=[]∧ce= .panic (.iface 224 (.agg [.int .i64 10]))∧h'=t.sh)∨(0<t.all.length∧ ∃cap,t.all.length≤cap∧cap≤9223372036854775807∧ce= .ret (.slice 6 8 0 t.all.length cap)∧h'=t.sh++[some (.arr 8 t.all.length cap (rows t.all))])):=by
 refine callK (E:=E) E_ok Tryz.func102 rfl ?_;refine aN ?_ ?_
 ·exact sA
 refine(u63 t hv).use [0,1,2,3,4,5] ?_ (qZ0) rfl;refine aN ?_ ?_
 ·exact sA
 refine(u64 (2^t.nL-1)).use [0] ?_ (qZ0) rfl;refine aN ?_ ?_
 ·exact sA
 refine CallP.frame (u97 t hv) [0,1,2,3,4,5,6,7] (qZ0) (apartB_ok rfl) rfl ?_;rintro ce h' (⟨h0,rfl,rfl⟩|⟨h0,cap,hc1,hc2,rfl,rfl⟩)
 ·refine⟨ownB_ok rfl,?_⟩;refine aN ?_ ?_
  ·exact sA
  refine(u65_false 10).useP [] ?_ (qZ0) rfl;refine And.intro ?_ ⟨_,_,.inl ⟨h0,rfl,rfl⟩,?_⟩
  ·exact sA
  exact ent_tau [0,1,2,3,4,5] ⟨qZ0,qZ1,rfl⟩
 ·refine⟨ownB_ok rfl,?_⟩;have hd:decide ((t.all.length:Int)>0)=true:=by simpa using h0
  refine aN ?_ ?_
  ·exact sA
  rw[hd];refine(u65_true 10).use [] ?_ (qZ0) rfl;refine aN ?_ ?_
  ·exact sA
  refine⟨_,_,.inr ⟨h0,cap,hc1,hc2,rfl,rfl⟩,?_⟩;exact ent_tau [0,1,2,3,4,5,8] ⟨qZ0,qZ1,rfl⟩
def shr(x:Int)(n:Nat):Int:=x.fdiv (2^n)
def w64(x:Int):Int:=IntKind.u64.wrap x
def oc64(x:Int):Int:=
 let a:=w64 (bitOp .and .u64 (shr x 1) 6148914691236517205+bitOp .and .u64 x 6148914691236517205)
 let b:=w64 (bitOp .and .u64 (shr a 2) 3689348814741910323+bitOp .and .u64 a 3689348814741910323)
 let c:=bitOp .and .u64 (w64 (shr b 4+b)) 1085102592571150095
 let d:=w64 (c+shr c 8)
 let e:=w64 (d+shr d 16)
 let f:=w64 (e+shr e 32)
 bitOp .and .i64 (IntKind.i64.wrap f) 127
def dbL:List Int:=[0,1,56,2,57,49,28,3,61,58,42,50,38,29,17,4,62,47,59,36,45,43,51,22,53,39,33,30,24,18,12,5,63,55,48,27,60,41,37,16,46,35,44,21,52,32,23,11,54,26,40,15,34,20,31,10,25,14,19,9,13,8,7,6]
def db:SObj:= .glob 0 [.int .u8 0,.int .u8 1,.int .u8 56,.int .u8 2,.int .u8 57,.int .u8 49,.int .u8 28,.int .u8 3,.int .u8 61,.int .u8 58,.int .u8 42,.int .u8 50,.int .u8 38,.int .u8 29,.int .u8 17,.int .u8 4,.int .u8 62,.int .u8 47,.int .u8 59,.int .u8 36,.int .u8 45,.int .u8 43,.int .u8 51,.int .u8 22,.int .u8 53,.int .u8 39,.int .u8 33,.int .u8 30,.int .u8 24,.int .u8 18,.int .u8 12,.int .u8 5,.int .u8 63,.int .u8 55,.int .u8 48,.int .u8 27,.int .u8 60,.int .u8 41,.int .u8 37,.int .u8 16,.int .u8 46,.int .u8 35,.int .u8 44,.int .u8 21,.int .u8 52,.int .u8 32,.int .u8 23,.int .u8 11,.int .u8 54,.int .u8 26,.int .u8 40,.int .u8 15,.int .u8 34,.int .u8 20,.int .u8 31,.int .u8 10,.int .u8 25,.int .u8 14,.int .u8 19,.int .u8 9,.int .u8 13,.int .u8 8,.int .u8 7,.int .u8 6]
def tz64(x:Int):Int:=IntKind.i64.wrap (dbL.getD (shr (w64 (bitOp .and .u64 x (w64 (0-x))*285870213051353865)) 58).toNat 0)
theorem u116(x:Int)(hx:x≠0)(h0:0≤shr (w64 (bitOp .and .u64 x (w64 (0-x))*285870213051353865)) 58)(h1:shr (w64 (bitOp .and .u64 x (w64 (0-x))*285870213051353865)) 58<64):CallP Tryz.prog 166 [.int .u64 x] [some db] (Ret (.int .i64 (tz64 x)) [some db]):=by
 refine callR (E:=Ew) Ew_ok Tryz.func166 rfl ?_;refine And.intro ?_ (And.intro (fun h=>?_) (fun h=>?_))
 ·exact sA
 ·simp[hx]at h
 ·refine aN ?_ ?_
  ·have h2:(shr (w64 (bitOp .and .u64 x (w64 (0-x))*285870213051353865)) 58).toNat<64:=by omega
   refine⟨h2,h0,h1,?_⟩;simp[AllP,under,gB,wB,inR_iff,IntKind.bits]
  refine ent_tau [0] ⟨qZ0,⟨rfl,?_,trivial⟩,rfl⟩;rfl
end Go.Proofs.YthnhlkflkidemaaGreatDoor
