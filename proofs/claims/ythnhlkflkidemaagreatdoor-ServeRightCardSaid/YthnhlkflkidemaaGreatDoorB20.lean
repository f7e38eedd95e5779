/-
  Parts: HoH7, HoH8, HoP1, HoP2, Sy30, Sy31.
-/
import Derived.Test.YthnhlkflkidemaaGreatDoorB19
import Derived.Test.YthnhlkflkidemaaGreatDoorB15
import Derived.Test.YthnhlkflkidemaaGreatDoorB16
import Derived.Test.YthnhlkflkidemaaGreatDoorB18
set_option linter.unusedVariables false
set_option linter.unusedSimpArgs false
/-
 Plain law of horses, part 7.
-/
namespace Kuhn
/-! ### Moves in the order in which they should begin -/
def befo(K:Nat→Int)(a b:Nat):Prop:=K a<K b∨K a=K b∧a<b
def swp(o:Nat→Nat)(j:Nat):Nat→Nat:=fun k=>if k=j then o (j-1)else if k=j-1 then o j else o k
def insF(lt:Nat→Nat→Bool):Nat→(Nat→Nat)→(Nat→Nat)
 |0,o=>o
 |j+1,o=>match lt (o (j+1)) (o j)with
  |true=>insF lt j (swp o (j+1))
  |false=>o
def ltK(K:Nat→Int)(a b:Nat):Bool:=decide (K a<K b)
def srtF(K:Nat→Int):Nat→(Nat→Nat)
 |0=>id
 |i+1=>insF (ltK K) i (srtF K i)
theorem insF_ok{K:Nat→Int}{x i:Nat} : ∀(j:Nat) (o:Nat→Nat),j≤i→o j=x→(∀a b,a<b→b≤i→a≠j→b≠j→befo K (o a) (o b))→(∀b,j<b→b≤i→befo K x (o b))→(∀a,a≤i→a≠j→o a<x)→
  (∀a b,a<b→b≤i→befo K (insF (ltK K) j o a) (insF (ltK K) j o b))∧(∀k,i<k→insF (ltK K) j o k=o k)∧ ∀y,(∃k,k≤i∧insF (ltK K) j o k=y)↔ ∃k,k≤i∧o k=y
 |0,o,_,hx,h1,h2,h3=>by
  refine⟨fun a b hab hb=>?_,fun _ _=>rfl,fun _=>Iff.rfl⟩;simp only[insF];by_cases ha:a=0
  ·subst ha;rw[hx];exact h2 b hab hb
  ·exact h1 a b hab hb ha (by omega)
 |j+1,o,hj,hx,h1,h2,h3=>by
  cases hlt:ltK K (o (j+1)) (o j)with
  |true=>
   have ei:insF (ltK K) (j+1) o=insF (ltK K) j (swp o (j+1)):=by simp only[insF,hlt]
   rw[ei];simp only[ltK,decide_eq_true_eq,hx]at hlt;have e1:swp o (j+1) (j+1)=o j:=by simp[swp]
   have e2:swp o (j+1) j=x:=by
    simp only[swp,if_neg (show¬j=j+1 by omega),Nat.add_sub_cancel,if_true];exact hx
   have e3: ∀k,k≠j→k≠j+1→swp o (j+1) k=o k:=fun k a b=>by
    simp only[swp,if_neg b,Nat.add_sub_cancel,if_neg a]
   obtain⟨r1,r2,r3⟩:=insF_ok (K:=K) (x:=x) (i:=i) j (swp o (j+1)) (by omega) e2 (fun a b hab hb ha hb2=>by
    by_cases c1:a=j+1
    ·subst c1;rw[e1,e3 b hb2 (by omega)];exact h1 j b (by omega) hb (by omega) (by omega)
    ·rw[e3 a ha c1];by_cases c2:b=j+1
     ·subst c2;rw[e1];exact h1 a j (by omega) (by omega) c1 (by omega)
     ·rw[e3 b hb2 c2];exact h1 a b hab hb c1 c2) (fun b hb hb2=>by
    by_cases c:b=j+1
    ·subst c;rw[e1];exact .inl hlt
    ·rw[e3 b (by omega) c];exact h2 b (by omega) hb2) (fun a ha haj=>by
    by_cases c:a=j+1
    ·subst c;rw[e1];exact h3 j (by omega) (by omega)
    ·rw[e3 a haj c];exact h3 a ha c)
   refine⟨r1,fun k hk=>?_,fun y=>(r3 y).trans ?_⟩
   ·rw[r2 k hk,e3 k (by omega) (by omega)]
   ·constructor
    ·rintro⟨k,hk,e⟩;by_cases c:k=j
     ·subst c;rw[e2]at e;exact⟨k+1,hj,by rw[hx];exact e⟩
     ·by_cases c2:k=j+1
      ·subst c2;rw[e1]at e;exact⟨j,by omega,e⟩
      ·rw[e3 k c c2]at e;exact⟨k,hk,e⟩
    ·rintro⟨k,hk,e⟩;by_cases c:k=j
     ·subst c;exact⟨k+1,hj,by rw[e1];exact e⟩
     ·by_cases c2:k=j+1
      ·subst c2;rw[hx]at e;exact⟨j,by omega,by rw[e2];exact e⟩
      ·exact⟨k,hk,by rw[e3 k c c2];exact e⟩
  |false=>
   have ei:insF (ltK K) (j+1) o=o:=by simp only[insF,hlt]
   rw[ei];simp only[ltK,decide_eq_false_iff_not,hx]at hlt;refine⟨fun a b hab hb=>?_,fun _ _=>rfl,fun _=>Iff.rfl⟩;by_cases c1:a=j+1
   ·subst c1;rw[hx];exact h2 b hab hb
   ·by_cases c2:b=j+1
    ·subst c2;rw[hx];have h4:=h3 a (by omega) c1;have h5:K (o a)≤K (o j):=by
      by_cases c3:a=j
      ·rw[c3];exact Int.le_refl _
      ·rcases h1 a j (by omega) (by omega) c1 (by omega)with h|h<;>omega
     by_cases c4:K (o a)<K x
     ·exact .inl c4
     ·exact .inr ⟨by omega,h4⟩
    ·exact h1 a b hab hb c1 c2
theorem srtF_ok(K:Nat→Int): ∀i,(∀a b,a<b→b<i→befo K (srtF K i a) (srtF K i b))∧(∀k,i≤k→srtF K i k=k)∧ ∀y,(∃k,k<i∧srtF K i k=y)↔y<i
 |0=>⟨fun a b _ h=>by omega,fun _ _=>rfl,fun y=>⟨fun⟨k,h,_⟩=>by omega,fun h=>by omega⟩⟩
 |i+1=>by
  obtain⟨h1,h2,h3⟩:=srtF_ok K i;obtain⟨r1,r2,r3⟩:=insF_ok (K:=K) (x:=i) (i:=i) i (srtF K i) (Nat.le_refl i) (h2 i (Nat.le_refl i)) (fun a b hab hb _ hb2=>h1 a b hab (by omega)) (fun b hb hb2=>by omega) (fun a ha hai=>(h3 _).1 ⟨a,by omega,rfl⟩);refine⟨fun a b hab hb=>r1 a b hab (by omega),fun k hk=>(r2 k (by omega)).trans (h2 k (by omega)),fun y=>⟨fun⟨k,hk,e⟩=>?_,fun hy=>?_⟩⟩
  ·obtain⟨k2,h4,h5⟩:=(r3 y).1 ⟨k,by omega,e⟩;by_cases c:k2=i
   ·rw[c,h2 i (Nat.le_refl i)]at h5;omega
   ·have:=(h3 y).1 ⟨k2,by omega,h5⟩;omega
  ·have: ∃k,k≤i∧srtF K i k=y:=by
    by_cases c:y=i
    ·exact⟨i,Nat.le_refl i,by rw[h2 i (Nat.le_refl i),c]⟩
    ·obtain⟨k,h4,h5⟩:=(h3 y).2 (by omega);exact⟨k,by omega,h5⟩
   obtain⟨k,h4,h5⟩:=(r3 y).2 this;exact⟨k,by omega,h5⟩
/-! ### When each begins -/
theorem befo_irr{K:Nat→Int}{a:Nat}(h:befo K a a):False:=by
 rcases h with h|h<;>omega
theorem befo_tr{K:Nat→Int}{a b c:Nat}(h:befo K a b)(h':befo K b c):befo K a c:=by
 unfold befo at*;omega
theorem befo_tot{K:Nat→Int}{a b:Nat}(h:a≠b):befo K a b∨befo K b a:=by
 unfold befo;omega
def lastI(p:Nat→Int)(o:Nat→Nat):Nat→Int→Option Nat
 |0,_=>none
 |j+1,x=>if p (o j)=x then some j else lastI p o j x
def tmS(K p:Nat→Int)(th:Int→Nat→Nat→Int)(o:Nat→Nat):Nat→(Nat→Int)
 |0=>fun _=>0
 |j+1=>fun k=>if k=o j then(match lastI p o j (p (o j))with|none=>K (o j)|some i=>max (K (o j)) (th (tmS K p th o j (o i)) (o i) (o j)))else tmS K p th o j k
def maskO(f:Nat→Bool):Nat→Nat
 |0=>0
 |k+1=>match f k with
  |true=>maskO f k|||2^k
  |false=>maskO f k
theorem maskO_bit(f:Nat→Bool)(i:Nat): ∀n,(maskO f n).testBit i=(decide (i<n)&&f i)
 |0=>by simp[maskO]
 |n+1=>by
  have ih:=maskO_bit f i n;by_cases c:i=n
  ·subst c;cases h:f i<;>simp[maskO,h,ih,Nat.testBit_or,Nat.testBit_two_pow_self]
  ·have e:(i<n+1)↔(i<n):=by omega
   cases h:f n
   ·simp only[maskO,h,ih,e]
   ·simp only[maskO,h,Nat.testBit_or,ih,e];rw[Nat.testBit_two_pow_of_ne (by omega)];simp
theorem maskO_lt(f:Nat→Bool)(n:Nat):maskO f n<2^n:=
 Nat.lt_pow_two_of_testBit _ fun i hi=>by
  rw[maskO_bit,decide_eq_false (by omega)];rfl
def HD.ch(h:HD)(s:Bool)(i:Nat):Nat:=match decide (i<h.n)with
 |true=>maskO (fun k=>h.can s i k) h.n
 |false=>0
theorem HD.ch_bit(h:HD)(s:Bool)(i k:Nat):(h.ch s i).testBit k=(decide (i<h.n)&&(decide (k<h.n)&&h.can s i k)):=by
 unfold HD.ch;cases decide (i<h.n)with
 |true=>simp[maskO_bit]
 |false=>simp
theorem HD.ch_lt{h:HD}(hn:h.n≤7)(s:Bool)(i:Nat):h.ch s i<128:=by
 unfold HD.ch;cases decide (i<h.n)with
 |true=>exact Nat.lt_of_lt_of_le (maskO_lt _ _) (Nat.pow_le_pow_right (n:=2) (by omega) hn)
 |false=>exact(by decide:(0:Nat)<128)
def HD.every(h:HD):Nat:=2^h.n-1
theorem HD.every_bit(h:HD)(i:Nat):h.every.testBit i=decide (i<h.n):=Nat.testBit_two_pow_sub_one h.n i
theorem HD.every_lt{h:HD}(hn:h.n≤7):h.every<128:=by
 have:2^h.n≤2^7:=Nat.pow_le_pow_right (by omega) hn;have:=Nat.pow_pos (n:=h.n) (show 0<2 by omega);unfold HD.every;omega
/-! ### Matching, on what the program keeps -/
def fset:List (Int×Int)→Int→Int→List (Int×Int)
 |[],k,v=>[(k,v)]
 |(a,b)::l,k,v=>if a=k then(k,v)::l else(a,b)::fset l k v
structure FOk(l:List (Int×Int)):Prop where
 key: ∀p∈l,0≤p.1∧p.1<7
 val: ∀p∈l,0≤p.2∧p.2<7
 nod:(l.map (·.1)).Nodup
theorem fset_mem{l:List (Int×Int)}{k v:Int}{p:Int×Int}(h:p∈fset l k v):p=(k,v)∨p∈l:=by
 induction l with
 |nil=>simp[fset]at h;exact .inl h
 |cons q l ih=>
  obtain⟨a,b⟩:=q;simp only[fset]at h;by_cases c:a=k
  ·rw[if_pos c]at h;rcases List.mem_cons.1 h with h|h
   ·exact .inl h
   ·exact .inr (List.mem_cons_of_mem _ h)
  ·rw[if_neg c]at h;rcases List.mem_cons.1 h with h|h
   ·exact .inr (h▸List.mem_cons_self ..)
   ·rcases ih h with h|h
    ·exact .inl h
    ·exact .inr (List.mem_cons_of_mem _ h)
theorem fset_nod{l:List (Int×Int)}{k v:Int}(h:(l.map (·.1)).Nodup):((fset l k v).map (·.1)).Nodup:=by
 induction l with
 |nil=>simp[fset]
 |cons q l ih=>
  obtain⟨a,b⟩:=q;simp only[List.map_cons,List.nodup_cons]at h;simp only[fset];by_cases c:a=k
  ·rw[if_pos c];simp only[List.map_cons,List.nodup_cons];exact⟨c▸h.1,h.2⟩
  ·rw[if_neg c];simp only[List.map_cons,List.nodup_cons];refine⟨fun hm=>?_,ih h.2⟩;obtain⟨p,hp,e⟩:=List.mem_map.1 hm;rcases fset_mem hp with h1|h1
   ·rw[h1]at e;exact c e.symm
   ·exact h.1 (List.mem_map.2 ⟨p,h1,e⟩)
theorem FOk.set{l:List (Int×Int)}(h:FOk l){k v:Int}(hk:0≤k∧k<7)(hv:0≤v∧v<7):FOk (fset l k v):=
 ⟨fun p hp=>by
  rcases fset_mem hp with h1|h1
  ·rw[h1];exact hk
  ·exact h.key p h1,fun p hp=>by
  rcases fset_mem hp with h1|h1
  ·rw[h1];exact hv
  ·exact h.val p h1,fset_nod h.nod⟩
end Kuhn
/-
 Contracts of the small functions of the horse package.
-/
namespace Go.Proofs.YthnhlkflkidemaaGreatDoor
open Go Go.Sy Kuhn
set_option maxRecDepth 100000
set_option maxHeartbeats 4000000
attribute [local irreducible] CallP CodeP Ent YieldP
theorem inR_iffH(n:Int):InR .i64 n↔ -9223372036854775808≤n∧n≤9223372036854775807:=Iff.rfl
theorem unH{P:Prop}{b:Bool}(h:P):b=true→P:=fun _=>h
def inBH(n lo hi:Int):Bool:=decide (lo≤n)&&decide (n≤hi)
theorem inB_iffH{n lo hi:Int} :inBH n lo hi=true↔lo≤n∧n≤hi:=by simp[inBH]
theorem h62(n lo hi:Int):CallP Tryz.prog 176 [.int .i64 n,.int .i64 lo,.int .i64 hi] [] (Ret (.bool (inBH n lo hi)) []):=by
 refine callR (E:=E) E_ok Tryz.func176 rfl ?_;refine aN ?_ ?_
 ·simp[AllP,under,gB,wB,inR_iffH,IntKind.bits]
 refine ent_tau [] ⟨trivial,⟨rfl,congrArg SV.bool ?_,trivial⟩,rfl⟩;unfold inBH;cases decide (lo≤n)<;>rfl
theorem h80_true(e:Int):CallP Tryz.prog 175 [.bool true,.int .i64 e] [] (Ret (.tup []) []):=by
 refine callR (E:=E) E_ok Tryz.func175 rfl ?_;refine And.intro ?_ (And.intro (fun h=>?_) (fun h=>?_))
 ·simp[AllP,under,gB,wB,inR_iffH,IntKind.bits]
 ·simp at h
 ·refine aN ?_ ?_
  ·simp[AllP,under,gB,wB,inR_iffH,IntKind.bits]
  ·exact ent_of [] trivial ⟨rfl,rfl,trivial⟩ rfl rfl rfl
theorem h80_false(e:Int):CallP Tryz.prog 175 [.bool false,.int .i64 e] [] (Pan (.iface 245 (.int .i64 e)) []):=by
 refine callK (E:=E) E_ok Tryz.func175 rfl ?_;refine And.intro ?_ (And.intro (fun h=>?_) (fun h=>?_))
 ·simp[AllP,under,gB,wB,inR_iffH,IntKind.bits]
 ·refine And.intro ?_ ⟨.panic (.iface 245 (.int .i64 e)),[],⟨rfl,rfl⟩,?_⟩
  ·simp[AllP,under,gB,wB,inR_iffH,IntKind.bits]
  ·exact ent_of [] trivial ⟨rfl,rfl,trivial⟩ rfl rfl rfl
 ·simp at h
theorem mustH{b:Bool}{e:Int}{H:SHeap}{K:CE→SHeap→Prop}(h1:b=true→fcH H fun H=>K (.ret (.tup [])) H)(h2:b=false→fcH H fun H=>K (.panic (.iface 245 (.int .i64 e))) H):
  CallP Tryz.prog 175 [.bool b,.int .i64 e] H K:=by
 cases b with
 |true=>
  refine CallP.frame (h80_true e) [] trivial (apartB_ok rfl) rfl ?_;rintro ce h' ⟨rfl,rfl⟩;have:=h1 rfl;rw[fcH_eq]at this;exact⟨ownB_ok rfl,by simpa[updH,putH,newH,renC,ren,renL]using this⟩
 |false=>
  refine CallP.frame (h80_false e) [] trivial (apartB_ok rfl) rfl ?_;rintro ce h' ⟨rfl,rfl⟩;have:=h2 rfl;rw[fcH_eq]at this;exact⟨ownB_ok rfl,by simpa[updH,putH,newH,renC,ren,renL]using this⟩
/-! ### Sets -/
theorem ofInt_nat(a:Nat):BitVec.ofInt 64 (a:Int)=BitVec.ofNat 64 a:=BitVec.ofInt_natCast 64 a
theorem wrap_bv(x:BitVec 64):IntKind.wrap .u64 (x.toNat:Int)=x.toNat:=wrap_in (k:= .u64) ⟨by omega,by have:=x.isLt;omega⟩
theorem and_nat{a b:Nat}(ha:a<2^64)(hb:b<2^64):bitOp .and .u64 (a:Int) (b:Int)=((a&&&b:Nat):Int):=by
 show IntKind.wrap .u64 ((BitVec.ofInt 64 (a:Int)&&&BitVec.ofInt 64 (b:Int)).toNat:Int)=_;rw[wrap_bv,ofInt_nat,ofInt_nat,BitVec.toNat_and,BitVec.toNat_ofNat,BitVec.toNat_ofNat,Nat.mod_eq_of_lt ha,Nat.mod_eq_of_lt hb]
theorem or_nat{a b:Nat}(ha:a<2^64)(hb:b<2^64):bitOp .or .u64 (a:Int) (b:Int)=((a|||b:Nat):Int):=by
 show IntKind.wrap .u64 ((BitVec.ofInt 64 (a:Int)|||BitVec.ofInt 64 (b:Int)).toNat:Int)=_;rw[wrap_bv,ofInt_nat,ofInt_nat,BitVec.toNat_or,BitVec.toNat_ofNat,BitVec.toNat_ofNat,Nat.mod_eq_of_lt ha,Nat.mod_eq_of_lt hb]
def sdiff(a b:Nat):Nat:=(BitVec.ofNat 64 a&&& ~~~BitVec.ofNat 64 b).toNat
theorem sdiff_nat(a b:Nat):bitOp .andNot .u64 (a:Int) (b:Int)=((sdiff a b:Nat):Int):=by
 show IntKind.wrap .u64 ((BitVec.ofInt 64 (a:Int)&&& ~~~BitVec.ofInt 64 (b:Int)).toNat:Int)=_;rw[wrap_bv,ofInt_nat,ofInt_nat];rfl
theorem sdiff_bit{a b i:Nat}(hi:i<64):(sdiff a b).testBit i=(a.testBit i&&!b.testBit i):=by
 have e:(sdiff a b).testBit i=(BitVec.ofNat 64 a&&& ~~~BitVec.ofNat 64 b).getLsbD i:=rfl;rw[e,BitVec.getLsbD_and,BitVec.getLsbD_not,BitVec.getLsbD_ofNat,BitVec.getLsbD_ofNat];simp[hi]
theorem sdiff_lt{a b n:Nat}(ha:a<2^n):sdiff a b<2^n:=by
 refine Nat.lt_pow_two_of_testBit _ fun i hi=>?_
 by_cases h:i<64
 ·rw[sdiff_bit h,Nat.testBit_lt_two_pow (Nat.lt_of_lt_of_le ha (Nat.pow_le_pow_right (by omega) hi))];rfl
 ·have e:sdiff a b<2^64:=(BitVec.ofNat 64 a&&& ~~~BitVec.ofNat 64 b).isLt;exact Nat.testBit_lt_two_pow (Nat.lt_of_lt_of_le e (Nat.pow_le_pow_right (by omega) (by omega)))
theorem has_nat{S n:Nat}(hS:S<2^64):decide (bitOp .and .u64 ((S:Int).fdiv (2^n)) 1=1)=S.testBit n:=by
 have e:(S:Int).fdiv (2^n)=((S/2^n:Nat):Int):=by
  rw[Int.fdiv_eq_ediv_of_nonneg _ (by have:=Nat.pow_pos (n:=n) (show 0<2 by omega);exact_mod_cast Nat.zero_le _)];norm_cast
 have h1:S/2^n<2^64:=Nat.lt_of_le_of_lt (Nat.div_le_self _ _) hS;have e2:=and_nat (a:=S/2^n) (b:=1) h1 (by decide);rw[e];have e3:bitOp .and .u64 ((S/2^n:Nat):Int) 1=((S/2^n&&&1:Nat):Int):=e2;rw[e3,Nat.and_one_is_mod,Nat.testBit_eq_decide_div_mod_eq];congr 1;simp only[eq_iff_iff];omega
theorem h51(S:Nat)(hS:S<2^64)(n:Int)(hn:0≤n∧n<64):CallP Tryz.prog 125 [.int .u64 S,.int .i64 n] [] (Ret (.bool (S.testBit n.toNat)) []):=by
 refine callR (E:=E) E_ok Tryz.func125 rfl ?_;refine aN ?_ ?_
 ·simp[AllP,under,gB,wB,inR_iffH,IntKind.bits];omega
 refine ent_tau [] ⟨qZ0,⟨rfl,?_,trivial⟩,rfl⟩;exact congrArg SV.bool (has_nat hS)
theorem h75(S T:Nat):CallP Tryz.prog 126 [.int .u64 S,.int .u64 T] [] (Ret (.int .u64 (sdiff S T:Nat)) []):=by
 refine callR (E:=E) E_ok Tryz.func126 rfl ?_;refine aN ?_ ?_
 ·simp[AllP,under,gB,wB,inR_iffH,IntKind.bits]
 refine ent_tau [] ⟨qZ0,⟨rfl,?_,trivial⟩,rfl⟩;exact congrArg (SV.int .u64) (sdiff_nat S T)
def un2(S T:Nat):Nat→List SV:=fun k=>[.int .u64 ((match k with|0=>S|_=>T:Nat):Int)]
def or2(S T:Nat):Nat→Nat
 |0=>0
 |1=>S
 |_=>S|||T
theorem h82(S T:Nat)(hS:S<2^64)(hT:T<2^64):CallP Tryz.prog 178 [.slice 0 1 0 2 2] [some (.roa 1 2 (un2 S T))] (Ret (.int .u64 (S|||T:Nat)) [some (.roa 1 2 (un2 S T))]):=by
 refine callR (E:=E) E_ok Tryz.func178 rfl ?_;refine aN ?_ ?_
 ·simp[AllP,under,gB,wB,inR_iffH,IntKind.bits]
 refine loopP E_ok [0,5,6] (fun i:Nat=>[(2,.int .u64 (or2 S T i:Nat)),(7,.int .i64 i)]) (fun _ h=>h) (fun i=>i≤2) (fun i=>2-i) 0 (Nat.zero_le _) ?_ ?_
 ·exact ent_tau [0] ⟨qZ0,qZ2,rfl⟩
 rintro i hi;refine And.intro ?_ (And.intro (fun hc=>?_) (fun hc=>?_))
 ·simp[AllP,under,gB,wB,inR_iffH,IntKind.bits]
 ·have hlt:i<2:=by
   have:=of_decide_eq_true hc;omega
  have hc2:i=0∨i=1:=by omega
  rcases hc2 with rfl|rfl
  ·refine aN ?_ ?_
   ·simp[AllP,under,gB,wB,inR_iffH,IntKind.bits]
   refine⟨1,by omega,by omega,?_⟩;refine ent_tau [0] ⟨qZ0,?_,rfl⟩;(repeat' (first|exact tU|exact rfl|exact congrArg (SV.int .i64) (Int.natCast_succ _).symm|exact congrArg (SV.int .u64) (Int.natCast_succ _).symm|refine aN ?_ ?_));exact congrArg (SV.int .u64) ((or_nat (a:=0) (b:=S) (by decide) hS).trans (by rw[Nat.zero_or];rfl))
  ·refine aN ?_ ?_
   ·simp[AllP,under,gB,wB,inR_iffH,IntKind.bits]
   refine⟨2,by omega,by omega,?_⟩;refine ent_tau [0] ⟨qZ0,?_,rfl⟩;(repeat' (first|exact tU|exact rfl|exact congrArg (SV.int .i64) (Int.natCast_succ _).symm|exact congrArg (SV.int .u64) (Int.natCast_succ _).symm|refine aN ?_ ?_));exact congrArg (SV.int .u64) (or_nat hS hT)
 ·have e:i=2:=by
   have:=of_decide_eq_false hc;omega
  subst e;(repeat' (first|exact tU|exact fun _=>rfl|exact rfl|refine aN ?_ ?_));exact ent_tau [0] ⟨qZ0,qZ2,rfl⟩
/-! ### How long a move takes -/
def HD.F(h:HD)(i:Nat):List SV:=[.int .i64 (h.at' i),.int .i64 (h.pl i),.int .i64 (h.lo i),.int .i64 (h.hi i)]
def HD.A(h:HD):SV:= .agg [.int .i64 h.pace,.osl h.b 0 4 h.n h.cap]
def HD.H(h:HD):SHeap:=[some (.roa 4 h.n (HD.F h))]
def trT:Bool→Nat
 |true=>191
 |false=>188
def tr(s:Bool):SV:= .iface (trT s) (.agg [])
theorem h120(a b c d:Int):CallP Tryz.prog 276 [.agg [],.agg [.int .i64 a,.int .i64 b,.int .i64 c,.int .i64 d]] [] (Ret (.int .i64 d) []):=by
 refine callR (E:=E) E_ok Tryz.func276 rfl ?_;refine aN ?_ ?_
 ·simp[AllP,under,gB,wB,inR_iffH,IntKind.bits]
 exact ent_tau [] ⟨qZ0,qZ2,rfl⟩
theorem h121(a b c d:Int):CallP Tryz.prog 275 [.agg [],.agg [.int .i64 a,.int .i64 b,.int .i64 c,.int .i64 d]] [] (Ret (.int .i64 c) []):=by
 refine callR (E:=E) E_ok Tryz.func275 rfl ?_;refine aN ?_ ?_
 ·simp[AllP,under,gB,wB,inR_iffH,IntKind.bits]
 exact ent_tau [] ⟨qZ0,qZ2,rfl⟩
theorem h56(s:Bool):CallP Tryz.prog 116 [.bool s] [] (Ret (tr s) []):=by
 refine callR (E:=E) E_ok Tryz.func116 rfl ?_;refine And.intro ?_ (And.intro (fun h=>?_) (fun h=>?_))
 ·simp[AllP,under,gB,wB,inR_iffH,IntKind.bits]
 ·subst h;refine aN ?_ ?_
  ·simp[AllP,under,gB,wB,inR_iffH,IntKind.bits]
  exact ent_tau [] ⟨qZ0,qZ2,rfl⟩
 ·subst h;refine aN ?_ ?_
  ·simp[AllP,under,gB,wB,inR_iffH,IntKind.bits]
  exact ent_tau [] ⟨qZ0,qZ2,rfl⟩
attribute [local irreducible] HD.ch
theorem u0{P:Prop}(h:P):under none P:=h
theorem u1{P:Prop}{c:Bool}(h:P):under (some c) P:=fun _=>h
theorem z1(i:Nat):0+((i:Nat):Int).toNat=i:=by omega
theorem h81(h:HD)(hv:h.Valid)(s:Bool)(b:Int)(hb:0≤b∧b≤1000000)(i k:Nat)(hi:i<h.n)(hk:k<h.n):
  CallP Tryz.prog 177 [HD.A h,.int .i64 b,.int .i64 i,.int .i64 k,tr s] (HD.H h) (Ret (.int .i64 (h.there s b i k)) (HD.H h)):=by
 have ei:=z1 i;have ek:=z1 k;have mi:=hv.2.2 i hi;have mk:=hv.2.2 k hk;unfold HD.okMv at mi mk;have w0:=HD.walk_nonneg hv i k;have w1:=HD.walk_le hv hi hk;have w2:h.pace*max (h.pl i-h.pl k) (h.pl k-h.pl i)=h.pace*h.dist i k:=rfl;have tt:=HD.takes_pos hv s hi;have tl:=HD.takes_le hv s hi;have key: ∀a b:Int,(if b>a then b else a)=max a b:=fun a b=>by split<;>omega
 have kD:max (h.pl i-h.pl k) (h.pl k-h.pl i)=h.dist i k:=rfl;cases s with
 |true=>
  refine callR (E:=E) E_ok Tryz.func177 rfl ?_;refine aN ?_ ?_
  ·simp[AllP,under,gB,wB,inR_iffH,IntKind.bits]
  refine drawP E_ok [1] pl177_1 (by kernel_rfl) ?_;(repeat' (first|exact tU|exact fun _=>rfl|exact rfl|refine aN ?_ ?_));all_goals first|exact qM0|skip
  all_goals refine drawP E_ok [1,2,3] pl177_2 (by kernel_rfl) ?_
  all_goals(repeat' (first|exact tU|exact fun _=>rfl|exact rfl|refine aN ?_ ?_))
  all_goals first|exact qM0|(simp only[ei,ek,key,kD];exact qM0)|skip
  all_goals refine(h120 _ _ _ _).use [] ?_ trivial rfl
  all_goals(repeat' (first|exact tU|exact fun _=>rfl|exact rfl|refine aN ?_ ?_))
  all_goals first|exact qM0|(simp only[ei,ek,key,kD];exact qM0)|skip
  all_goals refine ent_tau [0] ⟨qZ0,⟨rfl,?_,trivial⟩,rfl⟩
  all_goals refine congrArg (SV.int .i64) ?_
  all_goals simp only[ei,ek,key,kD]
  all_goals rfl
 |false=>
  refine callR (E:=E) E_ok Tryz.func177 rfl ?_;refine aN ?_ ?_
  ·simp[AllP,under,gB,wB,inR_iffH,IntKind.bits]
  refine drawP E_ok [1] pl177_1 (by kernel_rfl) ?_;(repeat' (first|exact tU|exact fun _=>rfl|exact rfl|refine aN ?_ ?_));all_goals first|exact qM0|skip
  all_goals refine drawP E_ok [1,2,3] pl177_2 (by kernel_rfl) ?_
  all_goals(repeat' (first|exact tU|exact fun _=>rfl|exact rfl|refine aN ?_ ?_))
  all_goals first|exact qM0|(simp only[ei,ek,key,kD];exact qM0)|skip
  all_goals refine(h121 _ _ _ _).use [] ?_ trivial rfl
  all_goals(repeat' (first|exact tU|exact fun _=>rfl|exact rfl|refine aN ?_ ?_))
  all_goals first|exact qM0|(simp only[ei,ek,key,kD];exact qM0)|skip
  all_goals refine ent_tau [0] ⟨qZ0,⟨rfl,?_,trivial⟩,rfl⟩
  all_goals refine congrArg (SV.int .i64) ?_
  all_goals simp only[ei,ek,key,kD]
  all_goals rfl
end Go.Proofs.YthnhlkflkidemaaGreatDoor
/-
 Sy30: temporaries said otherwise; an empty row beside a block that is only read. No program is named.
-/
namespace Go.Sy
open Go
theorem Sat.alias{η:Nam}{φ:Feet}{h:SHeap}{w0 w:World}{Ef:Nat→Prop}(s:Sat η φ h w0 Ef w){i:Nat}{o:SObj}{a:Nat×Nat}(hi:h[i]?=some (some o))(ha:η i=some a)
  (hc: ∃c T fz,w.heap[a.1]?=some (.cells c T fz)) (hr:o.rw=false) (hf:o.foot a (φ i) a.1) (sz:Nat) (get:Nat→List SV):
  Sat (fun j=>if j=h.length then some a else η j) φ (h++[some (.roa sz 0 get)]) w0 Ef w:=by
 have hη: ∀j,j<h.length→(if j=h.length then some a else η j)=η j:=fun j hj=>if_neg (by omega)
 have le:η.le (fun j=>if j=h.length then some a else η j):=fun j b e=>by
  have hj:j<h.length:=by
   obtain⟨o1,h1⟩:=s.dom j b e
   rcases Nat.lt_or_ge j h.length with h2|h2
   ·exact h2
   ·rw[List.getElem?_eq_none h2]at h1;cases h1
  show(if j=h.length then some a else η j)=some b
  rw[if_neg (by omega)]
  exact e
 have get?: ∀(j:Nat) x,(h++[some (SObj.roa sz 0 get)])[j]?=some x→(j<h.length∧h[j]?=some x)∨(j=h.length∧x=some (.roa sz 0 get)):=fun j x e=>by
  rcases Nat.lt_trichotomy j h.length with h1|h1|h1
  ·rw[List.getElem?_append_left h1]at e
   exact .inl ⟨h1,e⟩
  ·subst h1
   rw[List.getElem?_append_right (Nat.le_refl _)]at e
   simp at e
   exact .inr ⟨rfl,e.symm⟩
  ·rw[List.getElem?_eq_none (by simp;omega)]at e
   cases e
 have old: ∀(j:Nat) (b:Nat×Nat),j<h.length→(if j=h.length then some a else η j)=some b→η j=some b:=fun j b hj e=>by rwa [if_neg (by omega)]at e
 have new: ∀(b:Nat×Nat),(if h.length=h.length then some a else η h.length)=some b→a=b:=fun b e=>by rw[if_pos rfl]at e;exact Option.some.inj e
 constructor
 ·exact s.size
 ·exact s.env
 ·exact s.keep
 ·intro j b e
  by_cases hj:j=h.length
  ·subst hj
   exact⟨.roa sz 0 get,by rw[List.getElem?_append_right (Nat.le_refl _)];simp⟩
  ·have e':η j=some b:=by simpa[hj]using e
   obtain⟨o1,h1⟩:=s.dom j b e'
   refine⟨o1,?_⟩
   have:j<h.length:=by
    rcases Nat.lt_or_ge j h.length with h2|h2
    ·exact h2
    ·rw[List.getElem?_eq_none h2]at h1;cases h1
   rwa [List.getElem?_append_left this]
 ·intro j o1 e
  rcases get? j _ e with⟨h1,h2⟩|⟨rfl,_⟩
  ·obtain⟨b,hb⟩:=s.named j o1 h2
   exact⟨b,by rw[hη j h1];exact hb⟩
  ·exact⟨a,if_pos rfl⟩
 ·intro j o1 b e e'
  rcases get? j _ e with⟨h1,h2⟩|⟨rfl,h2⟩
  ·exact SObj.holds_mono le (s.holds j o1 b h2 (old j b h1 e'))
  ·cases h2
   cases new b e'
   obtain⟨c,T,fz,h3⟩:=hc
   exact⟨c,T,fz,h3,fun k hk=>by omega⟩
 ·intro j o1 b x e e' hx
  rcases get? j _ e with⟨h1,h2⟩|⟨rfl,h2⟩
  ·exact s.bnd j o1 b x h2 (old j b h1 e') hx
  ·cases h2
   cases new b e'
   have hx':a.1=x:=hx
   subst hx'
   exact s.bnd i o a a.1 hi ha hf
 ·intro j o1 b x e e' hr1 hx
  rcases get? j _ e with⟨h1,h2⟩|⟨rfl,h2⟩
  ·exact s.own j o1 b x h2 (old j b h1 e') hr1 hx
  ·cases h2
   cases hr1
 ·intro j k oj ok aj ak x hjk ej ek ej' ek' hr1 hx hk
  rcases get? j _ ej with⟨h1,h2⟩|⟨rfl,h2⟩
  ·rcases get? k _ ek with⟨h3,h4⟩|⟨rfl,h4⟩
   ·exact s.sep j k oj ok aj ak x hjk h2 h4 (old j aj h1 ej') (old k ak h3 ek') hr1 hx hk
   ·cases h4
    cases new ak ek'
    have hk':a.1=x:=hk
    subst hk'
    have hji:j≠i:=fun e=>by
     subst e
     rw[h2]at hi
     cases hi
     rw[hr]at hr1
     cases hr1
    exact s.sep j i oj o aj a a.1 hji h2 hi (old j aj h1 ej') ha hr1 hx hf
  ·cases h2
   cases hr1
theorem entAlias{n:Nat}{T:Tm}{H:SHeap}{D:List SV}{i sz0 m0:Nat}{get0:Nat→List SV}(hi:H[i]?=some (some (.roa sz0 m0 get0)))(sz:Nat)(get:Nat→List SV):Ent n ⟨T,H,D⟩ ⟨T,H++[some (.roa sz 0 get)],D⟩:=by
 intro η φ w0 Ef w a hn hs hT hD;obtain⟨ad,ha⟩:=hs.named i _ hi;obtain⟨c,Ty,fz,hh,_⟩:=hs.holds i _ ad hi ha;have hs2:=hs.alias hi ha ⟨c,Ty,fz,hh⟩ rfl rfl sz get;have le:η.le (fun j=>if j=H.length then some ad else η j):=fun j b e=>by
  have hj:j<H.length:=by
   obtain⟨o1,h1⟩:=hs.dom j b e;rcases Nat.lt_or_ge j H.length with h2|h2
   ·exact h2
   ·rw[List.getElem?_eq_none h2]at h1;cases h1
  show(if j=H.length then some ad else η j)=some b;rw[if_neg (by omega)];exact e
 refine⟨_,_,fun j hj=>if_neg ?_,?_,hs2,hT.mono le,hD.mono le⟩
 ·have:n≤H.length:=hn;omega
 ·have:n≤H.length:=hn;simp only[List.length_append,List.length_singleton];omega
def TmEq:Tm→Tm→Prop
 |[],[]=>True
 |_::xs,none::ys=>TmEq xs ys
 |some (g,v)::xs,some (g',v')::ys=>g=g'∧(∀η,den η v=den η v')∧TmEq xs ys
 |_,_=>False
theorem TmEq.get: ∀{S T:Tm},TmEq S T→S.length=T.length∧ ∀(k:Nat) (g:Option Bool) (v:SV),T[k]?=some (some (g,v))→ ∃u,S[k]?=some (some (g,u))∧ ∀η,den η u=den η v
 |[],[],_=>⟨rfl,fun k g v h=>by simp at h⟩
 |x::xs,none::ys,h=>by
  obtain⟨a,b⟩:=TmEq.get (S:=xs) (T:=ys) (by cases x<;>exact h);refine⟨by simp[a],fun k g v hk=>?_⟩;cases k with
  |zero=>simp at hk
  |succ k=>simpa using b k g v (by simpa using hk)
 |some (g,v)::xs,some (g',v')::ys,h=>by
  obtain⟨h1,h2,h3⟩:=h;obtain⟨a,b⟩:=TmEq.get h3;refine⟨by simp[a],fun k g2 v2 hk=>?_⟩;cases k with
  |zero=>
   simp only[List.getElem?_cons_zero,Option.some.injEq,Prod.mk.injEq]at hk;obtain⟨rfl,rfl⟩:=hk;exact⟨v,by rw[h1];rfl,h2⟩
  |succ k=>simpa using b k g2 v2 (by simpa using hk)
theorem entTm{n:Nat}{T T':Tm}{H:SHeap}{D:List SV}(h:TmEq T T'):Ent n ⟨T,H,D⟩ ⟨T',H,D⟩:=by
 intro η φ w0 Ef w a hn hs hT hD;obtain⟨hl,hg⟩:=h.get;refine⟨η,φ,fun _ _=>rfl,hn,hs,⟨hT.1.trans hl,fun k g sv hk=>?_⟩,hD⟩;obtain⟨u,h1,h2⟩:=hg k g sv hk;obtain⟨a1,a2⟩:=hT.2 k g u h1;exact⟨fun hgd=>by rw[←h2];exact a1 hgd,a2⟩
def TmEqN(η:Nam):Tm→Tm→Prop
 |[],[]=>True
 |_::xs,none::ys=>TmEqN η xs ys
 |some (g,v)::xs,some (g',v')::ys=>g=g'∧den η v=den η v'∧TmEqN η xs ys
 |_,_=>False
theorem TmEqN.get{η:Nam} : ∀{S T:Tm},TmEqN η S T→S.length=T.length∧ ∀(k:Nat) (g:Option Bool) (v:SV),T[k]?=some (some (g,v))→ ∃u,S[k]?=some (some (g,u))∧den η u=den η v
 |[],[],_=>⟨rfl,fun k g v h=>by simp at h⟩
 |x::xs,none::ys,h=>by
  obtain⟨a,b⟩:=TmEqN.get (S:=xs) (T:=ys) (by cases x<;>exact h);refine⟨by simp[a],fun k g v hk=>?_⟩;cases k with
  |zero=>simp at hk
  |succ k=>simpa using b k g v (by simpa using hk)
 |some (g,v)::xs,some (g',v')::ys,h=>by
  obtain⟨h1,h2,h3⟩:=h;obtain⟨a,b⟩:=TmEqN.get h3;refine⟨by simp[a],fun k g2 v2 hk=>?_⟩;cases k with
  |zero=>
   simp only[List.getElem?_cons_zero,Option.some.injEq,Prod.mk.injEq]at hk;obtain⟨rfl,rfl⟩:=hk;exact⟨v,by rw[h1];rfl,h2⟩
  |succ k=>simpa using b k g2 v2 (by simpa using hk)
theorem TmEqN.rel{η:Nam}{T T':Tm}{tm:Array Value}(h:TmEqN η T T')(hT:TRel η T tm):TRel η T' tm:=by
 obtain⟨hl,hg⟩:=h.get;refine⟨hT.1.trans hl,fun k g sv hk=>?_⟩;obtain⟨u,h1,h2⟩:=hg k g sv hk;obtain⟨a1,a2⟩:=hT.2 k g u h1;exact⟨fun hgd=>by rw[←h2];exact a1 hgd,a2⟩
end Go.Sy
