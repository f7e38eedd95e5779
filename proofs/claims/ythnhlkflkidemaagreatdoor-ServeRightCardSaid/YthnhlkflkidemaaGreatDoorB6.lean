/-
  Parts: Sy5, Sy6.
-/
import Derived.Test.YthnhlkflkidemaaGreatDoorB5
set_option linter.unusedVariables false
set_option linter.unusedSimpArgs false
/-
 Sy5: slices made whole, and stores; all plain operations under one name. No program is named.
-/
namespace Go.Sy
/-! ### A slice made of its elements -/
def repL{α:Type} :Nat→List α→List α
 |0,_=>[]
 |n+1,l=>l++repL n l
theorem repL_length{α:Type}(l:List α): ∀n,(repL n l).length=n*l.length
 |0=>by simp[repL]
 |n+1=>by simp[repL,repL_length l n,Nat.add_mul,Nat.add_comm]
theorem denL_rep{η:Nam}{l:List SV}{vs:List Value}(h:denL η l=some vs): ∀n,denL η (repL n l)=some (repL n vs)
 |0=>rfl
 |n+1=>denL_append h (denL_rep h n)
theorem range_rep{α:Type} [Inhabited α](l:List α)(h:l≠[]): ∀n,(List.range (n*l.length)).map (fun i=>l.toArray[i%l.length]!)=repL n l
 |0=>by simp[repL]
 |n+1=>by
  have hpos:0<l.length:=List.length_pos_iff.2 h;rw[Nat.add_mul,Nat.one_mul,Nat.add_comm,List.range_add,List.map_append,List.map_map,repL,←range_rep l h n];congr 1
  ·apply List.ext_getElem?;intro j;by_cases hj:j<l.length
   ·simp[hj,Nat.mod_eq_of_lt hj]
   ·simp[hj]
  ·apply List.map_congr_left;intro j _;simp
def getOf(sz:Nat)(cs:List SV)(k:Nat):List SV:=
 if sz=1 then match intsOf cs with
  |some (kd,ns)=>[.int kd (ns.getD k 0)]
  |none=>(cs.drop (k*sz)).take sz
 else(cs.drop (k*sz)).take sz
theorem getOf_ok{sz:Nat}{cs:List SV}{η:Nam}{vs:List Value}(hd:denL η cs=some vs){n:Nat}(hl:cs.length=n*sz){k:Nat}(hk:k<n):
  ∃us,denL η (getOf sz cs k)=some us∧us.length=sz∧ ∀j v,us[j]?=some v→vs[k*sz+j]?=some v:=by
 have hlv:=denL_length hd;have hle:k*sz+sz≤n*sz:=by rw[←Nat.succ_mul];exact Nat.mul_le_mul_right sz hk
 have hgen: ∃us,denL η ((cs.drop (k*sz)).take sz)=some us∧us.length=sz∧ ∀j v,us[j]?=some v→vs[k*sz+j]?=some v:=by
  refine⟨(vs.drop (k*sz)).take sz,denL_take sz (denL_drop _ hd),by simp;omega,fun j v hj=>?_⟩;rw[List.getElem?_take]at hj;split at hj
  ·rwa [List.getElem?_drop]at hj
  ·cases hj
 unfold getOf;split
 ·rename_i h1;subst h1;split
  ·rename_i kd ns hns;have e:=intsOf_ok hns;subst e;rw[denL_ints]at hd;cases hd;refine⟨[.int kd (ns.getD k 0)],rfl,rfl,fun j v hj=>?_⟩;simp at hl;cases j with
   |zero=>
    simp at hj;subst hj;rw[List.getElem?_map];simp[List.getElem?_eq_getElem (show k<ns.length by omega)]
   |succ j=>simp at hj
  ·exact hgen
 ·exact hgen
def evBuildSlice(E:Env)(t len:Nat)(parts:List (Nat×SV))(nid:Nat):Option Res:=
 match E.ty t with
 |some ti=>match ti.desc with
  | .slice e=>match E.ty e with
   |some te=>match cellsOf te.zero with
    |some zl=>if zl.length=te.size∧te.size≠0∧len*te.size≤16777216 then
      match fillS (fun i=>some (i*te.size,te.size)) (repL len zl) parts with
      |some cs=>if cs.length=len*te.size then some {v:= .slice nid te.size 0 len len,wr:=none,nw:=some (.arr te.size len len (getOf te.size cs)),ob:=[],rd:=[]}else none
      |none=>none
     else none
    |none=>none
   |none=>none
  |_=>none
 |none=>none
theorem evBuildSlice_ok{E:Env}{P:Program}(hE:E.ok P){t len nid:Nat}{parts:List (Nat×SV)}{r:Res}(h:evBuildSlice E t len parts nid=some r){η:Nam}{φ:Feet}{hp:SHeap}{w0 w:World}{Ef:Nat→Prop}
  (hs:Sat η φ hp w0 Ef w) (hn:hp[nid]?=some none) {ps:Array (Nat×Value)} (hl:ps.toList.length=parts.length)
  (hpp: ∀(j i:Nat) (sv:SV),parts[j]?=some (i,sv)→ ∃v,den η sv=some v∧ps.toList[j]?=some (i,v)):
  Gives P (do pure (.value (←Instr.buildSlice t len ps))) r η φ hp nid w0 Ef w:=by
 unfold evBuildSlice at h
 split at h
 ·rename_i ti ht
  have hu:=(hE.ty _ _ ht).underlying (w:=w)
  split at h
  ·rename_i e hd
   rw[hd]at hu
   split at h
   ·rename_i te hte
    have hsz:=(hE.ty _ _ hte).sizeOf (w:=w)
    obtain⟨z,hz,hzd⟩:=(hE.ty _ _ hte).zero (w:=w)
    split at h
    ·rename_i zl hzl
     split at h
     ·rename_i hc
      obtain⟨hc1,hc2,hc3⟩:=hc
      split at h
      ·rename_i cs hcs
       split at h
       ·rename_i hlen
        cases h
        obtain⟨zs,h1,h2⟩:=cellsOf_ok hzl (hzd η)
        have hlz:=denL_length h1
        obtain⟨us,h3,h4⟩:=fillS_ok (ps:=ps.toList) hcs (denL_rep h1 len) hl hpp
        have hle := Nam.le_put (a := (w.heap.size, 0)) (hs.free (i := nid) fun o => by rw [hn]; simp)
        have h3':=denL_mono hle _ _ h3
        have hlu:=denL_length h3
        have hne:zs≠[]:=fun e0=>by subst e0;simp at hlz;omega
        have hrange:((Array.range (len*te.size)).map fun i=>z.cells[i%z.cells.size]!)=(repL len zs).toArray:=by
         apply Array.ext'
         rw[h2]
         simp only[Array.toList_map,Array.toList_range,List.size_toArray]
         rw[←range_rep zs hne len,hlz,hc1]
        refine Gives.new (u:= .slice (some ⟨w.heap.size,0,none⟩) len len) (blk:= .cells us.toArray e) hs hn rfl (fun b hb=>hb.symm) ?_ (by simp[den,Nam.put_same]) ?_
        ·by_cases h0:len*te.size=0
         ·have hl0:len=0:=by
           rcases Nat.mul_eq_zero.1 h0 with h|h
           ·exact h
           ·exact absurd h hc2
          subst hl0
          have e1:(Array.range (0*te.size)).map (fun x=>(#[]:Array Value)[x%(#[]:Array Value).size]!)= #[]:=by rw[Nat.zero_mul];exact Array.eq_empty_of_size_eq_zero (by simp)
          have hr0:(repL 0 zs)=[]:=rfl
          rw[hr0]at h4
          have hgt: ¬0*te.size>2^24:=by omega
          simp only[Instr.buildSlice,Sem.run_bind,hu,Result.andThen_ok,hsz,if_neg hgt,if_pos h0,Sem.run_pure,e1,h4,run_newRow]
         ·have hgt: ¬len*te.size>2^24:=by omega
          simp only[Instr.buildSlice,Sem.run_bind,hu,Result.andThen_ok,hsz,if_neg hgt,if_neg h0,hz,Sem.run_pure,hrange,h4,run_newRow]
        ·refine⟨rfl,e,us.toArray,by simp,by simp;omega,Nat.le_refl _,fun k hk=>?_⟩
         obtain⟨vs,a1,a2,a3⟩:=getOf_ok (sz:=te.size) h3' hlen hk
         exact⟨vs,a1,a2,fun j v hj=>by simpa using a3 j v hj⟩
       ·cases h
      ·cases h
     ·cases h
    ·cases h
   ·cases h
  ·cases h
 ·cases h
/-! ### Stores -/
def oneS:SV→Bool
 | .agg _| .tup _| .val _=>false
 |_=>true
theorem oneS_ok{η:Nam}{sv:SV}{v:Value}(h:oneS sv=true)(hd:den η sv=some v):v.oneCell'=true:=by
  cases sv<;>simp[oneS]at h<;>simp only[den,Option.map_eq_some_iff,Option.bind_eq_some_iff,Option.some.injEq]at hd<;>first
    |(subst hd;rfl)
    |(obtain⟨a,_,rfl⟩:=hd;rfl)
    |(obtain⟨a,_,b,_,rfl⟩:=hd;rfl)
    | (obtain ⟨a, _, hd⟩ := hd
       unfold rowV at hd;split at hd
       · split at hd
         · cases hd;rfl
         · cases hd
       · cases hd;rfl)
    | (split at hd
       · simp only[Option.map_eq_some_iff]at hd;obtain⟨a,_,rfl⟩:=hd;rfl
       · split at hd
         · cases hd;rfl
         · cases hd)
def allOne:List SV→Bool
 |[]=>true
 |x::xs=>oneS x&&allOne xs
theorem allOne_ok{η:Nam} : ∀{l:List SV} {vs:List Value},allOne l=true→denL η l=some vs→ ∀v∈vs,v.oneCell'=true
 |[],vs,_,e=>by simp[denL]at e;subst e;simp
 |x::xs,vs,h,e=>by
  simp only[allOne,Bool.and_eq_true]at h;obtain⟨a,as,ha,has,rfl⟩:=denL_cons.1 e;intro v hv;rcases List.mem_cons.1 hv with rfl|hv
  ·exact oneS_ok h.1 ha
  ·exact allOne_ok h.2 has v hv
theorem run_storeCells{P:Program}(b:Nat)(T:TypeId): ∀(us:List Value) (o i:Nat) (c:List Value) (w:World),w.heap[b]?=some (.cells c.toArray T (0,0))→(∀v∈us,v.oneCell'=true)→o+i+us.length≤c.length→
  ∃w',(storeCells ⟨b,o,none⟩ us i).run P w= .ok () w'∧w'.heap.size=w.heap.size∧(∀b',b'≠b→w'.heap[b']?=w.heap[b']?)∧w'.heap[b]?=some (.cells (splice c (o+i) us).toArray T (0,0))∧SameEnv w w'
 |[],o,i,c,w,hw,_,_=>⟨w,rfl,rfl,fun _ _=>rfl,by simp[splice,hw],.refl w⟩
 |u::us,o,i,c,w,hw,h1,hl=>by
  simp only[List.length_cons]at hl;have hlt:o+i<c.length:=by omega
  have hcell:w.cell? ⟨b,o+i,none⟩=some c[o+i]:=by simp[World.cell?,hw,hlt]
  have hfz:w.frozen? ⟨b,o+i,none⟩=false:=by simp[World.frozen?,hw]
  have hst:(store ⟨b,o+i,none⟩ u).run P w= .ok () (w.setCell ⟨b,o+i,none⟩ u):=by
   rw[run_store P w _ u .plain (h1 u (by simp)),hcell];simp[hfz]
  have hw':(w.setCell ⟨b,o+i,none⟩ u).heap[b]?=some (.cells (c.set (o+i) u).toArray T (0,0)):=by
   simp[World.setCell,Array.getElem?_modify,hw]
  obtain⟨w',r1,r2,r3,r4,r5⟩:=run_storeCells (P:=P) b T us o (i+1) (c.set (o+i) u) (w.setCell ⟨b,o+i,none⟩ u) hw' (fun v hv=>h1 v (by simp[hv])) (by simp;omega);refine⟨w',?_,by rw[r2];simp,fun b' hb'=>?_,?_,r5⟩
  ·simp only[storeCells,Sem.run_bind,addr_add,hst,Result.andThen_ok];exact r1
  ·rw[r3 b' hb'];simp[World.setCell,Array.getElem?_modify,Ne.symm hb']
  ·rw[r4,show o+(i+1)=o+i+1 by omega,splice_cons _ _ _ _ hlt]
def selV(c:Bool):SV→SV→SV
 | .int k a,.int k' b=>if k=k' then .int k (bif c then a else b)else(bif c then .int k a else .int k' b)
 | .bool a,.bool b=> .bool (bif c then a else b)
 |x,y=>bif c then x else y
theorem selV_true(x y:SV):selV true x y=x:=by
 cases x<;>cases y<;>simp[selV]
theorem selV_false(x y:SV):selV false x y=y:=by
 cases x<;>cases y<;>simp[selV]
def selL(c:Bool):List SV→List SV→List SV
 |x::xs,y::ys=>selV c x y::selL c xs ys
 |xs,ys=>bif c then xs else ys
theorem selL_true: ∀xs ys:List SV,selL true xs ys=xs
 |[],ys=>by cases ys<;>rfl
 |x::xs,[]=>rfl
 |x::xs,y::ys=>by simp[selL,selV_true,selL_true xs ys]
theorem selL_false: ∀xs ys:List SV,selL false xs ys=ys
 |[],ys=>by cases ys<;>rfl
 |x::xs,[]=>rfl
 |x::xs,y::ys=>by simp[selL,selV_false,selL_false xs ys]
def evStore(E:Env)(t:Nat)(x v:SV)(h:SHeap):Option Res:=
 match E.ty t,cellsOf v with
 |some ti,some vc=>if vc.length=ti.size∧allOne vc=true then
   match x with
   | .ptr i o=>match h[i]? with
    |some (some (.cells cs))=>if o+vc.length≤cs.length then some {v:= .val undef,wr:=some (i,.cells (splice cs o vc)),nw:=none,ob:=[],rd:=[i]}else none
    |_=>none
   | .eptr i sz k j=>match h[i]? with
    |some (some (.arr sz' n cap get))=>if sz=sz'∧j+vc.length≤sz then
      some {v:= .val undef,wr:=some (i,.arr sz n cap (fun m=>selL (decide (m=k)) (splice (get k) j vc) (get m))),nw:=none,ob:=[k<n],rd:=[i]}else none
    |some (some (.cells cs))=>match intsOf cs,intsOf vc with
     |some (kd,ns),some (kd',us)=>if kd=kd' then
       some {v:= .val undef,wr:=some (i,.cells ((List.range ns.length).map fun m=>SV.int kd (if k*sz+j≤m∧m<k*sz+j+us.length then us.getD (m-(k*sz+j)) 0 else ns.getD m 0))),nw:=none,ob:=[k*sz+j+us.length≤ns.length],rd:=[i]}else none
     |_,_=>none
    |_=>none
   | .aptr i o len k=>match h[i]?,v with
    |some (some (.cells cs)),.int kv x=>match intsOf ((cs.drop o).take len)with
     |some (kd,ns)=>if kv=kd∧ns.length=len∧o+len≤cs.length∧ti.size=1 then
       some {v:= .val undef,wr:=some (i,.cells (splice cs o ((List.range len).map fun m=>SV.int kd (if m=k then x else ns.getD m 0)))),nw:=none,ob:=[k<len],rd:=[i]}else none
     |none=>none
    |some (some (.cells cs)),.bool _=>if o+k+vc.length≤cs.length then some {v:= .val undef,wr:=some (i,.cells (splice cs (o+k) vc)),nw:=none,ob:=[k<len],rd:=[i]}else none
    |_,_=>none
   |_=>none
  else none
 |_,_=>none
theorem evStore_ok{E:Env}{P:Program}(hE:E.ok P){t nid:Nat}{x v:SV}{h:SHeap}{r:Res}(he:evStore E t x v h=some r)(hob: ∀p∈r.ob,p)
  {η:Nam} {φ:Feet} {w0 w:World} {Ef:Nat→Prop} (s:Sat η φ h w0 Ef w) {xv vv:Value} (hx:den η x=some xv) (hv:den η v=some vv):
  Gives P (do Instr.storeAt t xv vv;pure .skip) r η φ h nid w0 Ef w:=by
 unfold evStore at he
 split at he
 ·rename_i ti vc ht hvc
  have hsz:=(hE.ty _ _ ht).sizeOf (w:=w)
  obtain⟨us,hu1,hu2⟩:=cellsOf_ok hvc hv
  have hlu:=denL_length hu1
  split at he
  ·rename_i hc
   obtain⟨hc1,hc2⟩:=hc
   have hone:=allOne_ok hc2 hu1
   have hstore: ∀(b o:Nat),(Instr.storeAt t (.pointer (some ⟨b,o,none⟩)) vv).run P w=(storeCells ⟨b,o,none⟩ us 0).run P w:=by
    intro b o
    have hne: ¬us.toArray.size≠ti.size:=by simp;omega
    simp only[Instr.storeAt,Instr.sureAddr,storeVar,Sem.run_bind,Sem.run_pure,Result.andThen_ok,hsz,if_neg hne,hu2]
   split at he
   ·-- one block of cells
    rename_i i o
    split at he
    ·rename_i cs hi
     split at he
     ·rename_i hle
      cases he
      simp only[den,Option.map_eq_some_iff]at hx
      obtain⟨a,ha,rfl⟩:=hx
      obtain⟨h0,T,vs,hd,hw⟩:=s.holds i _ a hi ha
      have hlv:=denL_length hd
      obtain⟨w',r1,r2,r3,r4,r5⟩:=run_storeCells (P:=P) a.1 T us (a.2+o) 0 vs w hw hone (by omega)
      refine⟨.skip,undef,w',η,?_,.inr ⟨rfl,rfl⟩,rfl,.refl η,fun _ _=>rfl,?_,fun h=>by cases h⟩
      ·rw[Sem.run_bind,hstore,r1];rfl
      ·refine s.upd hi ha rfl (fun b hb=>hb) r2 (fun b hb=>r3 b fun e=>hb e.symm) ⟨h0,T,_,denL_splice o hd hu1,?_⟩ r5
       rw[r4,h0,Nat.zero_add,Nat.add_zero]
     ·cases he
    ·cases he
   ·-- an element of a row
    rename_i i sz k j
    split at he
    ·rename_i sz' n cap get hi
     split at he
     ·rename_i hle
      obtain⟨rfl,hle⟩:=hle
      cases he
      have hk:k<n:=hob _ (by simp)
      simp only[den,Option.map_eq_some_iff]at hx
      obtain⟨a,ha,rfl⟩:=hx
      obtain⟨h0,T,c,hw,hcs,hn,hget⟩:=s.holds i _ a hi ha
      obtain⟨ks,hk1,hk2,hk3⟩:=hget k hk
      have hbound:k*sz+sz≤cap*sz:=by rw[←Nat.succ_mul];exact Nat.mul_le_mul_right sz (Nat.lt_of_lt_of_le hk hn)
      obtain⟨w',r1,r2,r3,r4,r5⟩:=run_storeCells (P:=P) a.1 T us (a.2+(k*sz+j)) 0 c.toList w (by simpa using hw) hone (by simp;omega)
      refine⟨.skip,undef,w',η,?_,.inr ⟨rfl,rfl⟩,rfl,.refl η,fun _ _=>rfl,?_,fun h=>by cases h⟩
      ·rw[Sem.run_bind,hstore,r1];rfl
      ·refine s.upd hi ha rfl (fun b hb=>hb) r2 (fun b hb=>r3 b fun e=>hb e.symm) ⟨h0,T,(splice c.toList (k*sz+j) us).toArray,?_,?_,hn,fun m hm=>?_⟩ r5
       ·rw[r4,h0,Nat.zero_add,Nat.add_zero]
       ·simp only[List.size_toArray]
        rw[splice_length _ _ _ (by simp;omega)];simpa using hcs
       ·have hsg: ∀p,(splice c.toList (k*sz+j) us)[p]?=if k*sz+j≤p∧p<k*sz+j+us.length then us[p-(k*sz+j)]? else c[p]?:=fun p=>by
         rw[splice_get _ _ _ (by simp;omega)];simp
        by_cases hmk:m=k
        ·subst hmk
         refine⟨splice ks j us,?_,?_,fun p v hp=>?_⟩
         ·simp only[decide_true,selL_true];exact denL_splice j hk1 hu1
         ·rw[splice_length _ _ _ (by omega)];exact hk2
         ·rw[splice_get _ _ _ (by omega)]at hp
          rw[List.getElem?_toArray,hsg]
          split at hp
          ·rename_i hr
           rw[if_pos (by omega),show m*sz+p-(m*sz+j)=p-j by omega];exact hp
          ·rename_i hr
           rw[if_neg (by omega)];exact hk3 p v hp
        ·obtain⟨ms,hm1,hm2,hm3⟩:=hget m hm
         refine⟨ms,?_,hm2,fun p v hp=>?_⟩
         ·simp only[hmk,decide_false,selL_false];exact hm1
         ·rw[List.getElem?_toArray,hsg,if_neg ?_]
          ·exact hm3 p v hp
          ·have hp':p<sz:=by
            have:=(List.getElem?_eq_some_iff.1 hp).1;omega
           intro hr
           rcases Nat.lt_or_gt_of_ne hmk with hlt|hgt
           ·have:m*sz+sz≤k*sz:=by rw[←Nat.succ_mul];exact Nat.mul_le_mul_right sz hlt
            omega
           ·have:k*sz+sz≤m*sz:=by rw[←Nat.succ_mul];exact Nat.mul_le_mul_right sz hgt
            omega
     ·cases he
    ·rename_i cs hi
     split at he
     ·rename_i kd ns kd' us' hns hus
      split at he
      ·rename_i hkd
       subst hkd
       cases he
       have hk:k*sz+j+us'.length≤ns.length:=hob _ (by simp)
       simp only[den,Option.map_eq_some_iff]at hx
       obtain⟨a,ha,rfl⟩:=hx
       obtain⟨h0,T,vs,hd,hw⟩:=s.holds i _ a hi ha
       have hlv:=denL_length hd
       have ecs:=intsOf_ok hns
       have evc:=intsOf_ok hus
       have hl1:cs.length=ns.length:=by rw[ecs,List.length_map]
       have hl2:vc.length=us'.length:=by rw[evc,List.length_map]
       have hvs:vs=ns.map (Value.int kd):=by rw[ecs,denL_ints]at hd;exact(Option.some.inj hd).symm
       have hus2:us=us'.map (Value.int kd):=by rw[evc,denL_ints]at hu1;exact(Option.some.inj hu1).symm
       obtain⟨w',r1,r2,r3,r4,r5⟩:=run_storeCells (P:=P) a.1 T us (a.2+(k*sz+j)) 0 vs w hw hone (by omega)
       refine⟨.skip,undef,w',η,?_,.inr ⟨rfl,rfl⟩,rfl,.refl η,fun _ _=>rfl,?_,fun h=>by cases h⟩
       ·rw[Sem.run_bind,hstore,r1];rfl
       ·refine s.upd hi ha rfl (fun b hb=>hb) r2 (fun b hb=>r3 b fun e=>hb e.symm) ⟨h0,T,splice vs (k*sz+j) us,?_,?_⟩ r5
        ·have e1:=denL_ints (η:=η) kd ((List.range ns.length).map fun m=>if k*sz+j≤m∧m<k*sz+j+us'.length then us'.getD (m-(k*sz+j)) 0 else ns.getD m 0)
         rw[List.map_map,List.map_map]at e1
         refine e1.trans (congrArg some ?_)
         apply List.ext_getElem?
         intro m
         rw[splice_get _ _ _ (by omega),hvs,hus2]
         simp only[List.getElem?_map,List.length_map]
         rcases Nat.lt_or_ge m ns.length with c|c
         ·rw[List.getElem?_range c]
          simp only[Option.map_some,Function.comp]
          split
          ·rename_i hr
           rw[List.getElem?_eq_getElem (show m-(k*sz+j)<us'.length by omega),List.getD_eq_getElem?_getD,List.getElem?_eq_getElem (show m-(k*sz+j)<us'.length by omega)]
           rfl
          ·rw[List.getElem?_eq_getElem c,List.getD_eq_getElem?_getD,List.getElem?_eq_getElem c]
           rfl
         ·rw[List.getElem?_eq_none (by simpa using c),if_neg (by omega),List.getElem?_eq_none c]
          rfl
        ·rw[r4,h0,Nat.zero_add,Nat.add_zero]
      ·cases he
     ·cases he
    ·cases he
   ·-- an element of an array of numbers
    rename_i i o len k
    split at he
    ·rename_i cs kv xn hi
     split at he
     ·rename_i kd ns hns
      split at he
      ·rename_i hcond
       obtain⟨rfl,hnl,hol,hs1⟩:=hcond
       cases he
       have hk:k<len:=hob _ (by simp)
       simp only[den,Option.map_eq_some_iff,Option.some.injEq]at hx hv
       obtain⟨a,ha,rfl⟩:=hx
       subst hv
       simp only[cellsOf,Option.some.injEq]at hvc
       subst hvc
       simp[denL,den]at hu1
       subst hu1
       obtain⟨h0,T,vs,hd,hw⟩:=s.holds i _ a hi ha
       have hlv:=denL_length hd
       obtain⟨w',r1,r2,r3,r4,r5⟩:=run_storeCells (P:=P) a.1 T [.int kv xn] (a.2+(o+k)) 0 vs w hw hone (by simp;omega)
       refine⟨.skip,undef,w',η,?_,.inr ⟨rfl,rfl⟩,rfl,.refl η,fun _ _=>rfl,?_,fun h=>by cases h⟩
       ·rw[Sem.run_bind,hstore,r1];rfl
       ·have hnew:denL η ((List.range len).map fun m=>SV.int kv (if m=k then xn else ns.getD m 0))=some ((List.range len).map fun m=>Value.int kv (if m=k then xn else ns.getD m 0)):=by
         have:=denL_ints (η:=η) kv ((List.range len).map fun m=>if m=k then xn else ns.getD m 0)
         simpa[List.map_map,Function.comp_def]using this
        have hd':=denL_take len (denL_drop o hd)
        rw[intsOf_ok hns,denL_ints]at hd'
        refine s.upd hi ha rfl (fun b hb=>hb) r2 (fun b hb=>r3 b fun e=>hb e.symm) ⟨h0,T,_,denL_splice o hd hnew,?_⟩ r5
        rw[r4,h0,Nat.zero_add,Nat.add_zero]
        congr 2
        congr 1
        apply List.ext_getElem?
        intro p
        rw[splice_get _ _ _ (by simp;omega),splice_get _ _ _ (by simp;omega)]
        simp only[List.length_singleton,List.length_map,List.length_range]
        by_cases hp:o≤p∧p<o+len
        ·rw[if_pos hp]
         rw[List.getElem?_map,List.getElem?_range (by omega),Option.map_some]
         by_cases hpk:p=o+k
         ·subst hpk
          simp
         ·rw[if_neg (by omega),if_neg (by omega)]
          have hg:((vs.drop o).take len)[p-o]?=some (.int kv (ns.getD (p-o) 0)):=by
           rw[←Option.some.inj hd']
           simp only[List.getElem?_map]
           rw[List.getElem?_eq_getElem (by omega)]
           simp[List.getD,List.getElem?_eq_getElem (show p-o<ns.length by omega)]
          rw[List.getElem?_take,if_pos (by omega),List.getElem?_drop,show o+(p-o)=p by omega]at hg
          exact hg
        ·rw[if_neg hp,if_neg (by omega)]
      ·cases he
     ·cases he
    ·rename_i cs bx hi
     split at he
     ·rename_i hle
      cases he
      simp only[den,Option.map_eq_some_iff]at hx
      obtain⟨a,ha,rfl⟩:=hx
      obtain⟨h0,T,vs,hd,hw⟩:=s.holds i _ a hi ha
      have hlv:=denL_length hd
      obtain⟨w',r1,r2,r3,r4,r5⟩:=run_storeCells (P:=P) a.1 T us (a.2+(o+k)) 0 vs w hw hone (by omega)
      refine⟨.skip,undef,w',η,?_,.inr ⟨rfl,rfl⟩,rfl,.refl η,fun _ _=>rfl,?_,fun h=>by cases h⟩
      ·rw[Sem.run_bind,hstore,r1];rfl
      ·refine s.upd hi ha rfl (fun b hb=>hb) r2 (fun b hb=>r3 b fun e=>hb e.symm) ⟨h0,T,_,denL_splice (o+k) hd hu1,?_⟩ r5
       rw[r4,h0,Nat.zero_add,Nat.add_zero]
     ·cases he
    ·cases he
   ·cases he
  ·cases he
 ·cases he
def Fw(r:Option Nat):Fence:={Fence.wide with round:=r}
theorem callsIn_fw{r:Option Nat}{n:Nat}{P:Program}{f:FuncId}{args:Array Value}{w:World}{R:Ending→World→Prop}(h:Calls P f args w R):CallsIn (Fw r) n P f args w R:=by
 have h':CallsIn Fence.wide n P f args w R:=callsIn_wide.2 h;exact h'
/-! ### States -/
abbrev Slot:=Option (Option Bool×SV)
abbrev Tm:=List Slot
structure St where
 T:Tm
 H:SHeap
 D:List SV
def TRel(η:Nam)(T:Tm)(tmps:Array Value):Prop:=
 tmps.size=T.length∧ ∀(k:Nat) (g:Option Bool) (sv:SV),T[k]?=some (some (g,sv))→(g.getD true=true→ ∃v,den η sv=some v∧tmps[k]?=some v)∧(g.getD true=false→tmps[k]?=some undef)
def denD(η:Nam)(sv:SV):Option Deferred:=
 match sv with
 | .fn f first cap=>(denL η first).bind fun a=>(denL η cap).map fun b=>{target:= .fn f b.toArray,args:=a.toArray}
 | .yld i=>(η i).map fun a=>{target:= .collected a.1,args:= #[]}
 |_=>none
def DRel(η:Nam)(D:List SV)(ds:List Deferred):Prop:=D.mapM (denD η)=some ds
inductive SE where
 |normal
 |exit (id:Nat)
 |goto (l:Nat)
 |ret
 |panic (v:SV)
def eRel(η:Nam):SE→Exit→Prop
 | .normal,e=>e= .normal
 | .exit id,e=>e= .exit id
 | .goto l,e=>e= .goto l
 | .ret,e=>e= .ret
 | .panic sv,e=> ∃v,den η sv=some v∧e= .panic [{v,recovered:=false}]
inductive CE where
 |ret (v:SV)
 |panic (v:SV)
def cRel(η:Nam):CE→Ending→Prop
 | .ret sv,e=> ∃v,den η sv=some v∧e= .returned v
 | .panic sv,e=> ∃v,den η sv=some v∧e= .panicked [{v,recovered:=false}]
def Pin(n:Nat)(η0 η:Nam):Prop:= ∀i,i<n→η i=η0 i
theorem Pin.refl(n:Nat)(η:Nam):Pin n η η:=fun _ _=>rfl
theorem Pin.trans{n m:Nat}{η0 η1 η2:Nam}(h:Pin n η0 η1)(h':Pin m η1 η2)(hm:n≤m):Pin n η0 η2:=fun i hi=>(h' i (by omega)).trans (h i hi)
def Post(n:Nat)(η0:Nam)(w0:World)(Ef:Nat→Prop)(K:SE→St→Prop)(e:Exit)(a:Act)(w:World):Prop:=
 ∃se s η φ,K se s∧Pin n η0 η∧n≤s.H.length∧eRel η se e∧Sat η φ s.H w0 Ef w∧TRel η s.T a.tmps∧DRel η s.D a.defers
def CodeP(P:Program)(r:Option Nat)(n:Nat)(c:Code)(s:St)(K:SE→St→Prop):Prop:=
 ∀(η0 η:Nam) (φ:Feet) (w0:World) (Ef:Nat→Prop) (w:World) (a:Act),Pin n η0 η→n≤s.H.length→Sat η φ s.H w0 Ef w→TRel η s.T a.tmps→DRel η s.D a.defers→
  c.wpIn (Fw r) 0 P (Post n η0 w0 Ef K) a w
def CallP(P:Program)(f:FuncId)(args:List SV)(h:SHeap)(K:CE→SHeap→Prop):Prop:=
 ∀(η:Nam) (φ:Feet) (w0:World) (Ef:Nat→Prop) (w:World) (vs:List Value),Sat η φ h w0 Ef w→denL η args=some vs→
  Calls P f vs.toArray w fun e w'=> ∃ce h' η' φ',K ce h'∧h.length≤h'.length∧Pin h.length η η'∧cRel η' ce e∧Sat η' φ' h' w0 Ef w'
def CallG(C:Nam→List Value→World→(Ending→World→Prop)→Prop)(args:List SV)(h:SHeap)(K:CE→SHeap→Prop):Prop:=
 ∀(η:Nam) (φ:Feet) (w0:World) (Ef:Nat→Prop) (w:World) (vs:List Value),Sat η φ h w0 Ef w→denL η args=some vs→
  C η vs w fun e w'=> ∃ce h' η' φ',K ce h'∧h.length≤h'.length∧Pin h.length η η'∧cRel η' ce e∧Sat η' φ' h' w0 Ef w'
def yieldC(P:Program)(i:Nat):Nam→List Value→World→(Ending→World→Prop)→Prop:=fun η vs w R=>
 ∃a f tmps assign body,η i=some a∧(Instr.yield a.1 vs.toArray).run P w= .ok (.round a.1 f tmps assign body) w∧RoundIn (Fw none) 0 P a.1 f tmps assign body w R
def YieldP(P:Program)(i:Nat)(args:List SV)(h:SHeap)(K:CE→SHeap→Prop):Prop:=CallG (yieldC P i) args h K
theorem yieldC.mono{P:Program}{i:Nat}{η:Nam}{vs:List Value}{w:World}{R R':Ending→World→Prop}(h:yieldC P i η vs w R)(hr: ∀e w',R e w'→R' e w'):yieldC P i η vs w R':=
 let⟨a,f,tmps,assign,body,h1,h2,h3⟩:=h
 ⟨a,f,tmps,assign,body,h1,h2,h3.mono hr⟩
theorem YieldP.mono{P:Program}{i:Nat}{args:List SV}{h:SHeap}{K K':CE→SHeap→Prop}(hc:YieldP P i args h K)(hk: ∀ce h',K ce h'→K' ce h'):YieldP P i args h K':=
 fun η φ w0 Ef w vs hs hd=>(hc η φ w0 Ef w vs hs hd).mono fun _ _ ⟨ce,h',η',φ',k,r⟩=>⟨ce,h',η',φ',hk _ _ k,r⟩
theorem CallP.mono{P:Program}{f:FuncId}{args:List SV}{h:SHeap}{K K':CE→SHeap→Prop}(hc:CallP P f args h K)(hk: ∀ce h',K ce h'→K' ce h'):CallP P f args h K':=
 fun η φ w0 Ef w vs hs hd=>(hc η φ w0 Ef w vs hs hd).mono fun _ _ ⟨ce,h',η',φ',k,r⟩=>⟨ce,h',η',φ',hk _ _ k,r⟩
theorem CodeP.mono{P:Program}{r:Option Nat}{n:Nat}{c:Code}{s:St}{K K':SE→St→Prop}(hc:CodeP P r n c s K)(hk: ∀se s',K se s'→K' se s'):CodeP P r n c s K':=
 fun η0 η φ w0 Ef w a h1 h2 h3 h4 h5 => wpIn_mono (hc η0 η φ w0 Ef w a h1 h2 h3 h4 h5) fun _ _ _ ⟨se, s', η', φ', k, q⟩ => ⟨se, s', η', φ', hk _ _ k, q⟩
/-! ### Relations go on -/
theorem Nam.le_of_pin{η η':Nam}{φ:Feet}{h:SHeap}{w0:World}{Ef:Nat→Prop}{w:World}(s:Sat η φ h w0 Ef w)(hp:Pin h.length η η'):η.le η':=fun i a e=>by
 obtain⟨o,ho⟩:=s.dom i a e;have hl:i<h.length:=by
  rcases Nat.lt_or_ge i h.length with hl|hl
  ·exact hl
  ·rw[List.getElem?_eq_none hl]at ho;cases ho
 rw[hp i hl];exact e
theorem TRel.mono{η η':Nam}(hle:η.le η'){T:Tm}{tmps:Array Value}(h:TRel η T tmps):TRel η' T tmps:=
 ⟨h.1,fun k g sv hk=>⟨fun hg=>let⟨v,h1,h2⟩:=(h.2 k g sv hk).1 hg;⟨v,den_mono hle _ _ h1,h2⟩,(h.2 k g sv hk).2⟩⟩
theorem denD_mono{η η':Nam}(hle:η.le η'){sv:SV}{d:Deferred}(h:denD η sv=some d):denD η' sv=some d:=by
 cases sv<;>simp only[denD,reduceCtorEq]at h⊢;case fn=>
  simp only[Option.bind_eq_some_iff,Option.map_eq_some_iff]at h⊢;obtain⟨a,ha,b,hb,rfl⟩:=h;exact⟨a,denL_mono hle _ _ ha,b,denL_mono hle _ _ hb,rfl⟩
 case yld=>
  simp only[Option.map_eq_some_iff]at h⊢;obtain⟨a,ha,rfl⟩:=h;exact⟨a,hle _ a ha,rfl⟩
theorem DRel.mono{η η':Nam}(hle:η.le η'): ∀{D:List SV} {ds:List Deferred},DRel η D ds→DRel η' D ds
 |[],ds,h=>h
 |x::xs,ds,h=>by
  unfold DRel at h⊢;simp only[List.mapM_cons,Option.bind_eq_bind,Option.bind_eq_some_iff,Option.pure_def,Option.some.injEq]at h⊢;obtain⟨d,h1,ds',h2,h3⟩:=h;exact⟨d,denD_mono hle h1,ds',DRel.mono hle (D:=xs) h2,h3⟩
def putT(T:Tm)(d:Option Nat)(e:Slot):Tm:=
 match d with
 |some d=>T.set d e
 |none=>T
theorem TRel.put{η:Nam}{T:Tm}{a:Act}(h:TRel η T a.tmps)(d:Option Nat){g:Option Bool}{sv:SV}{v:Value}(h1:g.getD true=true→den η sv=some v)(h2:g.getD true=false→v=undef):TRel η (putT T d (some (g,sv))) (a.put d v).tmps:=by
 cases d with
 |none=>exact h
 |some d=>
  refine⟨by simp[putT,Act.put,h.1],fun k g' sv' hk=>?_⟩;simp only[putT,List.getElem?_set]at hk;simp only[Act.put,Array.getElem?_setIfInBounds];split at hk
  ·rename_i hdk;subst hdk;split at hk
   ·rename_i hl;simp only[Option.some.injEq,Prod.mk.injEq]at hk;obtain⟨rfl,rfl⟩:=hk;simp only[h.1,hl,if_true];exact⟨fun hg=>⟨v,h1 hg,rfl⟩,fun hg=>by rw[h2 hg]⟩
   ·cases hk
  ·rename_i hdk;rw[if_neg hdk];exact h.2 k g' sv' hk
theorem Act.put_defers'(a:Act)(d:Option Nat)(v:Value):(a.put d v).defers=a.defers:=by cases d<;>rfl
/-! ### Operands -/
def ofVal:Value→SV
 | .bool b=> .bool b
 | .int k n=> .int k n
 | .string s=> .str s
 | .pointer none=> .pnil
 | .slice none 0 0=> .snil
 | .map none=> .mnil
 | .nilFunc=> .fnil
 | .nilIface=> .inil
 |v=> .val v
theorem den_ofVal(η:Nam)(v:Value):den η (ofVal v)=some v:=by
 unfold ofVal;split<;>rfl
def findG(g:Nat):SHeap→Nat→Option Nat
 |[],_=>none
 |some (.glob g' _)::rest,i=>if g'=g then some i else findG g rest (i+1)
 |_::rest,i=>findG g rest (i+1)
theorem findG_ok{g:Nat} : ∀{h:SHeap} {i j:Nat},findG g h i=some j→ ∃cs,i≤j∧h[j-i]?=some (some (.glob g cs))
 |[],i,j,e=>by simp[findG]at e
 |o::rest,i,j,e=>by
  have step:findG g rest (i+1)=some j→ ∃cs,i≤j∧(o::rest)[j-i]?=some (some (.glob g cs)):=fun e=>by
   obtain⟨cs,h1,h2⟩:=findG_ok e;refine⟨cs,by omega,?_⟩;rw[show j-i=(j-(i+1))+1 by omega];simpa using h2
  cases o with
  |none=>exact step e
  |some ob=>
   cases ob with
   |glob g' cs=>
    simp only[findG]at e;split at e
    ·rename_i hg;simp only[Option.some.injEq]at e;subst e hg;exact⟨cs,Nat.le_refl _,by simp⟩
    ·exact step e
   |_=>exact step e
def ldG(T:Tm)(h:SHeap)(x:Operand):Slot:=
 match x with
 | .tmp t=>(T[t]?).getD none
 | .const v=>some (none,ofVal v)
 | .global g=>match findG g h 0 with
  |some i=>some (none,.ptr i 0)
  |none=>none
 | .func f=>some (none,.fn (.func f) [] [])
theorem ldG_ok{η:Nam}{φ:Feet}{T:Tm}{h:SHeap}{w0:World}{Ef:Nat→Prop}{w:World}{a:Act}(hs:Sat η φ h w0 Ef w)(ht:TRel η T a.tmps){x:Operand}{g:Option Bool}{sv:SV}(e:ldG T h x=some (g,sv))(hg:g.getD true=true):
  den η sv=some (a.eval x):=by
 cases x with
 |tmp t=>
  simp only[ldG]at e;cases hT:T[t]? with
  |none=>rw[hT]at e;simp at e
  |some sl=>
   rw[hT]at e;simp only[Option.getD_some]at e;subst e;obtain⟨v,h1,h2⟩:=(ht.2 t g sv hT).1 hg;rw[h1];simp[Act.eval,Array.getD_eq_getD_getElem?,h2]
 |const v=>
  simp only[ldG,Option.some.injEq,Prod.mk.injEq]at e;obtain⟨_,rfl⟩:=e;exact den_ofVal η v
 |global gg=>
  simp only[ldG]at e;split at e
  ·rename_i i hi;simp only[Option.some.injEq,Prod.mk.injEq]at e;obtain⟨_,rfl⟩:=e;obtain⟨cs,_,h2⟩:=findG_ok hi;simp only[Nat.sub_zero]at h2;obtain⟨b,hb⟩:=hs.named i _ h2;have hh:=(hs.holds i _ b h2 hb).1;simp[den,hb,Act.eval,hh]
  ·cases e
 |func f=>
  simp only[ldG,Option.some.injEq,Prod.mk.injEq]at e;obtain⟨_,rfl⟩:=e;simp[den,denL,Act.eval]
end Go.Sy
