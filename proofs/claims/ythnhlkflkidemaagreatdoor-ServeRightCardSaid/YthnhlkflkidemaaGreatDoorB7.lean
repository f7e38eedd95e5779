/-
  Parts: SyS, SyT, Sy7.
-/
import Derived.Test.YthnhlkflkidemaaGreatDoorB6
import Derived.Laws.Append
import Derived.Laws.MakeOwn
set_option linter.unusedVariables false
set_option linter.unusedSimpArgs false
/-
 SyS: slices that are made, copied and cleared, on symbolic values. No program is named.
-/
namespace Go.Sy
def allOneN(get:Nat→List SV)(eo n:Nat):Prop:= ∀k,k<n→allOne (get (eo+k))=true
theorem rowCells{η:Nam}{sz:Nat}{get:Nat→List SV}{w:World}{b o:Nat} : ∀(n eo:Nat),(∀k,eo≤k→k<eo+n→ ∃vs,denL η (get k)=some vs∧vs.length=sz∧ ∀j v,vs[j]?=some v→w.cell? ⟨b,o+(k*sz+j),none⟩=some v)→
  ∃us:List Value,us.length=n*sz∧(∀j v,us[j]?=some v→w.cell? ⟨b,o+(eo*sz+j),none⟩=some v)∧ ∀k,k<n→ ∃vs,denL η (get (eo+k))=some vs∧vs.length=sz∧ ∀j v,vs[j]?=some v→us[k*sz+j]?=some v
 |0,eo,_=>⟨[],by simp,by simp,fun k hk=>absurd hk (Nat.not_lt_zero _)⟩
 |n+1,eo,h=>by
  obtain⟨vs,h1,h2,h3⟩:=h eo (Nat.le_refl _) (by omega);obtain⟨us,a1,a2,a3⟩:=rowCells n (eo+1) (fun k hk1 hk2=>h k (by omega) (by omega));refine⟨vs++us,by simp[a1,h2,Nat.add_mul,Nat.add_comm],fun j v hj=>?_,fun k hk=>?_⟩
  ·rw[List.getElem?_append]at hj;split at hj
   ·exact h3 j v hj
   ·rename_i hlt;have:=a2 _ v hj;rw[Nat.add_mul,Nat.one_mul]at this;rw[show o+(eo*sz+j)=o+(eo*sz+sz+(j-vs.length))by omega];exact this
  ·cases k with
   |zero=>
    refine⟨vs,by simpa using h1,h2,fun j v hj=>?_⟩;rw[List.getElem?_append,if_pos (by have:=(List.getElem?_eq_some_iff.1 hj).1;omega)];simpa using hj
   |succ k=>
    obtain⟨ws,b1,b2,b3⟩:=a3 k (by omega);refine⟨ws,by rw[show eo+(k+1)=eo+1+k by omega];exact b1,b2,fun j v hj=>?_⟩;rw[List.getElem?_append,if_neg (by rw[h2,Nat.add_mul,Nat.one_mul];omega)];rw[show(k+1)*sz+j-vs.length=k*sz+j by rw[h2,Nat.add_mul,Nat.one_mul];omega];exact b3 j v hj
theorem allOneN_ok{η:Nam}{get:Nat→List SV}{eo n sz:Nat}(hone:allOneN get eo n){us:List Value}(hsz:sz≠0)(hu1:us.length=n*sz)
  (hu3: ∀k,k<n→ ∃vs,denL η (get (eo+k))=some vs∧vs.length=sz∧ ∀j v,vs[j]?=some v→us[k*sz+j]?=some v): ∀u∈us,u.oneCell'=true:=fun u hu=>by
 obtain⟨j,hj⟩:=List.mem_iff_getElem?.1 hu;have hjl:=(List.getElem?_eq_some_iff.1 hj).1;rw[hu1]at hjl;have hts:0<sz:=by omega
 have hkl:j/sz<n:=Nat.div_lt_of_lt_mul (by rw[Nat.mul_comm];exact hjl);obtain⟨vs,x1,x2,x3⟩:=hu3 (j/sz) hkl;have hm:j%sz<vs.length:=by rw[x2];exact Nat.mod_lt _ hts
 have:=x3 (j%sz) _ (List.getElem?_eq_getElem hm);rw[Nat.mul_comm,Nat.div_add_mod,hj]at this;cases this;exact allOne_ok (hone _ hkl) x1 _ (List.getElem_mem hm)
theorem arr_write{P:Program}{η:Nam}{φ:Feet}{h:SHeap}{w0 w:World}{Ef:Nat→Prop}(s:Sat η φ h w0 Ef w){i sz n cap:Nat}{get g2:Nat→List SV}{a:Nat×Nat}(hi:h[i]?=some (some (.arr sz n cap get)))(ha:η i=some a)
  {eo m:Nat} (hle:eo+m≤n) {us:List Value} (hl:us.length=m*sz) (hone: ∀v∈us,v.oneCell'=true)
  (hus: ∀k,k<m→ ∃vs,denL η (g2 k)=some vs∧vs.length=sz∧ ∀j v,vs[j]?=some v→us[k*sz+j]?=some v):
  ∃w',(storeCells ⟨a.1,a.2+eo*sz,none⟩ us).run P w= .ok () w'∧Sat η φ (h.set i (some (.arr sz n cap fun k=>selL (decide (eo≤k∧k<eo+m)) (g2 (k-eo)) (get k)))) w0 Ef w':=by
 obtain⟨h0,T,c,hw,hcs,hn,hget⟩:=s.holds i _ a hi ha
 have hb1:(eo+m)*sz≤cap*sz:=Nat.mul_le_mul_right sz (by omega)
 rw[Nat.add_mul]at hb1
 obtain⟨w',r1,r2,r3,r4,r5⟩:=run_storeCells (P:=P) a.1 T us (a.2+eo*sz) 0 c.toList w (by simpa using hw) hone (by simp;omega)
 refine⟨w',r1,s.upd hi ha rfl (fun b hb=>hb) r2 (fun b hb=>r3 b fun e=>hb e.symm) ⟨h0,T,(splice c.toList (eo*sz) us).toArray,?_,?_,hn,fun k hk=>?_⟩ r5⟩
 ·rw[r4,h0,Nat.zero_add,Nat.add_zero]
 ·simp only[List.size_toArray]
  rw[splice_length _ _ _ (by simp;omega)];simpa using hcs
 ·have hsg: ∀p,(splice c.toList (eo*sz) us)[p]?=if eo*sz≤p∧p<eo*sz+us.length then us[p-eo*sz]? else c[p]?:=fun p=>by
   rw[splice_get _ _ _ (by simp;omega)];simp
  by_cases hc:eo≤k∧k<eo+m
  ·obtain⟨vs,x1,x2,x3⟩:=hus (k-eo) (by omega)
   refine⟨vs,by simp only[hc,and_self,decide_true,selL_true];exact x1,x2,fun j v hj=>?_⟩
   have hjl:=(List.getElem?_eq_some_iff.1 hj).1
   have e1:k*sz=eo*sz+(k-eo)*sz:=by rw[←Nat.add_mul];congr 1;omega
   have h3:(k-eo)*sz+j<m*sz:=by
    have:=Nat.mul_le_mul_right sz (show k-eo+1≤m by omega)
    rw[Nat.add_mul,Nat.one_mul]at this
    omega
   rw[List.getElem?_toArray,hsg,if_pos (by omega),show k*sz+j-eo*sz=(k-eo)*sz+j by omega]
   exact x3 j v hj
  ·obtain⟨vs,x1,x2,x3⟩:=hget k hk
   refine⟨vs,by simp only[hc,decide_false,selL_false];exact x1,x2,fun j v hj=>?_⟩
   have hjl:=(List.getElem?_eq_some_iff.1 hj).1
   rw[List.getElem?_toArray,hsg,if_neg ?_]
   ·exact x3 j v hj
   ·intro hr
    rcases Nat.lt_or_ge k eo with hlt|hge
    ·have:=Nat.mul_le_mul_right sz (show k+1≤eo by omega)
     rw[Nat.add_mul,Nat.one_mul]at this
     omega
    ·have:=Nat.mul_le_mul_right sz (show eo+m≤k by omega)
     rw[Nat.add_mul]at this
     omega
def evMake(E:Env)(t:Nat)(l c:SV)(nid:Nat):Option Res:=
 match E.ty t,l,c with
 |some ti,.int _ l,.int _ c=>match ti.desc with
  | .slice e=>match E.ty e with
   |some te=>match cellsOf te.zero with
    |some zl=>if zl.length=te.size∧te.size≠0 then
      some {v:= .slice nid te.size 0 l.toNat c.toNat,wr:=none,nw:=some (.arr te.size l.toNat c.toNat fun _=>zl),ob:=[0≤l,l≤c,(te.bytes:Int)*c≤281474976710656,c≤9223372036854775807],rd:=[]}else none
    |none=>none
   |none=>none
  |_=>none
 |_,_,_=>none
theorem evMake_ok{E:Env}{P:Program}(hE:E.ok P){t nid:Nat}{l c:SV}{r:Res}(h:evMake E t l c nid=some r)(ho: ∀p∈r.ob,p){η:Nam}{φ:Feet}{hp:SHeap}{w0 w:World}{Ef:Nat→Prop}
  (hs:Sat η φ hp w0 Ef w) (hn:hp[nid]?=some none) {lv cv:Value} (hl:den η l=some lv) (hc:den η c=some cv):Gives P (do pure (.value (←Instr.makeSlice t lv cv))) r η φ hp nid w0 Ef w:=by
 unfold evMake at h;split at h
 ·rename_i ti kl l kc c ht;simp only[den,Option.some.injEq]at hl hc;subst hl hc;split at h
  ·rename_i e hd;split at h
   ·rename_i te hte;obtain⟨info,z,hi1,hi2,hi3,hi4,hi5,hzs⟩:=(hE.ty _ _ hte).info;have htd:=(hE.ty _ _ ht).desc;rw[hd]at htd;split at h
    ·rename_i zl hzl;split at h
     ·rename_i hcnd;obtain⟨hc1,hc2⟩:=hcnd;cases h;have h1:0≤l:=ho _ (by simp);have h2:l≤c:=ho _ (by simp);have h3:(te.bytes:Int)*c≤281474976710656:=ho ((te.bytes:Int)*c≤281474976710656) (by simp);have h4:c≤9223372036854775807:=ho (c≤9223372036854775807) (by simp);obtain⟨zs,y1,y2⟩:=cellsOf_ok hzl (hi5 η);have hlz:=denL_length y1;have hrun:=run_make (P:=P) w t e info z htd hi1 hi4 kl kc l c h1 h2 (by rw[hi3];exact h3) h4;have hne:zs≠[]:=fun e0=>by subst e0;simp at hlz;omega
      have hrange:madeCells z.cells (c.toNat*info.size)=(repL c.toNat zs).toArray:=by
       apply Array.ext';unfold madeCells;rw[y2,hi2];simp only[Array.toList_map,Array.toList_range,List.size_toArray];rw[←range_rep zs hne c.toNat,hlz,hc1]
      rw [hrange] at hrun;have hle := Nam.le_put (a := (w.heap.size, 0)) (hs.free (i := nid) fun o => by rw [hn]; simp);refine Gives.new (u := .slice (some ⟨w.heap.size, 0, none⟩) l.toNat c.toNat) (blk := .cells (repL c.toNat zs).toArray e) hs hn rfl (fun b hb => hb.symm) hrun (by simp [den, Nam.put_same]) ?_;refine ⟨rfl, e, (repL c.toNat zs).toArray, by simp, by simp [repL_length, hlz, hc1], by omega, fun k hk => ⟨zs, denL_mono hle _ _ y1, by omega, fun j v hj => ?_⟩⟩;have hjl := (List.getElem?_eq_some_iff.1 hj).1;have hkc : k < c.toNat := by omega
      have hkj:k*te.size+j<c.toNat*te.size:=by
       have:=Nat.mul_le_mul_right te.size (show k+1≤c.toNat by omega);rw[Nat.add_mul,Nat.one_mul]at this;omega
      rw[List.getElem?_toArray,←range_rep zs hne c.toNat,List.getElem?_map,List.getElem?_range (by rw[hlz,hc1];exact hkj)];simp only[Option.map_some,Option.some.injEq];have:(k*te.size+j)%zs.length=j:=by
       rw[hlz,hc1,Nat.mul_comm,Nat.mul_add_mod,Nat.mod_eq_of_lt (by omega)]
      rw[this];have hgj:=(List.getElem?_eq_some_iff.1 hj).2;simp[hjl,hgj]
     ·cases h
    ·cases h
   ·cases h
  ·cases h
 ·cases h
def srcOf:SV→Option (Nat×Nat×Nat×Nat)
 | .slice i sz eo len _=>some (i,sz,eo,len)
 | .osl _ i sz len _=>some (i,sz,0,len)
 |_=>none
def evCopy(E:Env)(t:Nat)(d s:SV)(h:SHeap):Option Res:=
  match E.ty t with
  |some ti=>match ti.desc with
    | .slice e=>match E.ty e with
      |some te=>match d,srcOf s with
        | .slice i sz eo len _,some (i2,sz2,eo2,len2)=>match h[i]?,h[i2]? with
          |some (some (.arr sz' n cap get)),some (some o2)=>match o2.elems with
            |some (sz2',n2,get2)=>if sz=te.size∧sz'=te.size∧sz2=te.size∧sz2'=te.size∧i≠i2∧te.size≠0 then
                some { v := .int .i64 (Nat.min len2 len : Nat), wr := some (i, .arr sz n cap fun k => selL (decide (eo ≤ k ∧ k < eo + Nat.min len2 len)) (get2 (eo2 + (k - eo))) (get k)), nw := none
                       ob:=[eo+len≤n,eo2+len2≤n2,allOneN get2 eo2 (Nat.min len2 len)],rd:=[i,i2]}else none
            |none=>none
          |_,_=>none
        |_,_=>none
      |none=>none
    |_=>none
  |none=>none
theorem evCopy_ok{E:Env}{P:Program}(hE:E.ok P){t nid:Nat}{d s:SV}{h:SHeap}{r:Res}(he:evCopy E t d s h=some r)(ho: ∀p∈r.ob,p){η:Nam}{φ:Feet}{w0 w:World}{Ef:Nat→Prop}
  (hs:Sat η φ h w0 Ef w) {dv sv:Value} (hd:den η d=some dv) (hsv:den η s=some sv) (ats:Array TypeId) (hats:ats[0]?=some t) (ty:TypeId):
  Gives P (do pure (.value (←Builtin.copy_ ats ty #[dv,sv]))) r η φ h nid w0 Ef w:=by
 unfold evCopy at he
 split at he
 ·rename_i ti ht
  split at he
  ·rename_i e hde
   split at he
   ·rename_i te hte
    have htd:=(hE.ty _ _ ht).underlying (w:=w)
    rw[hde]at htd
    have hsz:=(hE.ty _ _ hte).sizeOf (w:=w)
    split at he
    ·rename_i i sz eo len cp i2 sz2 eo2 len2 hsrc
     split at he
     ·rename_i sz' n cap get o2 hi hi2
      split at he
      ·rename_i sz2' n2 get2 hel
       split at he
       ·rename_i hc
        obtain⟨q1,q2,q3,q4,q5,q6⟩:=hc
        subst q1
        subst q2
        subst q3
        subst q4
        cases he
        have g1:eo+len≤n:=ho _ (by simp)
        have g2:eo2+len2≤n2:=ho _ (by simp)
        have g3:allOneN get2 eo2 (Nat.min len2 len):=ho (allOneN get2 eo2 (Nat.min len2 len)) (by simp)
        have hm1:Nat.min len2 len≤len2:=Nat.min_le_left ..
        have hm2:Nat.min len2 len≤len:=Nat.min_le_right ..
        generalize hmm:Nat.min len2 len=m at*
        simp only[den,Option.map_eq_some_iff]at hd
        obtain⟨a,ha,rfl⟩:=hd
        obtain⟨b,hb⟩:=hs.named i2 _ hi2
        obtain⟨us,hu1,hu2,hu3⟩:=rowCells (η:=η) (w:=w) m eo2 (fun k hk1 hk2=>SObj.elems_ok hel (hs.holds i2 _ b hi2 hb) k (by omega))
        obtain⟨w',r1,r2⟩:=arr_write (P:=P) hs hi ha (eo:=eo) (m:=m) (by omega) hu1 (allOneN_ok g3 q6 hu1 hu3) (g2:=fun k=>get2 (eo2+k)) hu3
        have hfirst:(∃c2,sv= .slice (some ⟨b.1,b.2+eo2*te.size,none⟩) len2 c2)∨(sv= .slice none 0 0∧len2=0):=by
         unfold srcOf at hsrc
         split at hsrc
         ·simp only[Option.some.injEq,Prod.mk.injEq]at hsrc
          obtain⟨rfl,rfl,rfl,rfl⟩:=hsrc
          simp only[den,hb,Option.map_some,Option.some.injEq]at hsv
          exact .inl ⟨_,hsv.symm⟩
         ·rename_i bb _ _ _ c2
          simp only[Option.some.injEq,Prod.mk.injEq]at hsrc
          obtain⟨rfl,rfl,rfl,rfl⟩:=hsrc
          cases bb with
          |true=>
           simp only[den,hb,Option.map_some,Option.some.injEq]at hsv
           refine .inl ⟨c2,hsv.symm.trans ?_⟩
           rw[Nat.zero_mul,Nat.add_zero]
          |false=>
           simp only[den]at hsv
           split at hsv
           ·rename_i hz
            cases hsv
            exact .inr ⟨rfl,hz.1⟩
           ·cases hsv
         ·cases hsrc
        have hrun:(Builtin.copy_ ats ty #[.slice (some ⟨a.1,a.2+eo*te.size,none⟩) len cp,sv]).run P w= .ok (.int .i64 (m:Nat)) w':=by
         rcases hfirst with⟨c2,rfl⟩|⟨rfl,rfl⟩
         ·have hf:=run_firstCells_some (P:=P) w te.size m ⟨b.1,b.2+eo2*te.size,none⟩ len2 c2 us hu1 (fun j v hj=>by rw[addr_add,Nat.add_assoc];exact hu2 j v hj)
          simp[Builtin.copy_,hats,htd,Builtin.lenOf,hmm,hsz,hf,r1,goInt]
         ·have hm0:m=0:=by omega
          subst hm0
          have hus:us=[]:=List.eq_nil_of_length_eq_zero (by omega)
          subst hus
          simp only[storeCells,Sem.run_pure,Result.ok.injEq,true_and]at r1
          subst r1
          simp[Builtin.copy_,hats,htd,Builtin.lenOf,hsz,Builtin.firstCells,storeCells,goInt]
        exact⟨.value (.int .i64 (m:Nat)),_,w',η,by simp only[Sem.run_bind,hrun,Result.andThen_ok,Sem.run_pure],.inl rfl,rfl,.refl η,fun _ _=>rfl,r2,fun h=>by cases h⟩
       ·cases he
      ·cases he
     ·cases he
    ·cases he
   ·cases he
  ·cases he
 ·cases he
def evCopyA(E:Env)(t i sz eo len i2 o al l len2:Nat)(h:SHeap):Option Res:=
  match E.ty t with
  |some ti=>match ti.desc with
    | .slice e=>match E.ty e with
      |some te=>match h[i]?,h[i2]? with
        |some (some (.arr sz' n cap get)),some (some o2)=>match o2.list with
          |some cs=>match intsOf ((cs.drop o).take al)with
            |some (kd,ns)=>if te.size=1∧sz=1∧sz'=1∧ns.length=al∧i≠i2 then
                some { v := .int .i64 (Nat.min len2 len : Nat), wr := some (i, .arr 1 n cap fun k => selL (decide (eo ≤ k ∧ k < eo + Nat.min len2 len)) [.int kd (ns.getD (l + (k - eo)) 0)] (get k)), nw := none
                       ob:=[eo+len≤n,l+len2≤al],rd:=[i,i2]}else none
            |none=>none
          |none=>none
        |_,_=>none
      |none=>none
    |_=>none
  |none=>none
def evCopyH(E:Env)(t:Nat)(d s:SV)(h:SHeap):Option Res:=
 match d,s with
 | .slice i sz eo len _,.asl i2 o al l len2=>evCopyA E t i sz eo len i2 o al l len2 h
 |_,_=>evCopy E t d s h
theorem evCopyH_ok{E:Env}{P:Program}(hE:E.ok P){t nid:Nat}{d s:SV}{h:SHeap}{r:Res}(he:evCopyH E t d s h=some r)(ho: ∀p∈r.ob,p){η:Nam}{φ:Feet}{w0 w:World}{Ef:Nat→Prop}
  (hs:Sat η φ h w0 Ef w) {dv sv:Value} (hd:den η d=some dv) (hsv:den η s=some sv) (ats:Array TypeId) (hats:ats[0]?=some t) (ty:TypeId):
  Gives P (do pure (.value (←Builtin.copy_ ats ty #[dv,sv]))) r η φ h nid w0 Ef w:=by
 unfold evCopyH at he
 split at he
 ·rename_i i sz eo len cp i2 o al l len2
  unfold evCopyA at he
  split at he
  ·rename_i ti ht
   split at he
   ·rename_i e hde
    split at he
    ·rename_i te hte
     have htd:=(hE.ty _ _ ht).underlying (w:=w)
     rw[hde]at htd
     have hsz:=(hE.ty _ _ hte).sizeOf (w:=w)
     split at he
     ·rename_i sz' n cap get o2 hi hi2
      split at he
      ·rename_i cs hcs
       split at he
       ·rename_i kd ns hns
        split at he
        ·rename_i hc
         obtain⟨q1,q2,q3,q4,q5⟩:=hc
         subst q2
         subst q3
         cases he
         have g1:eo+len≤n:=ho _ (by simp)
         have g2:l+len2≤al:=ho _ (by simp)
         have hm1:Nat.min len2 len≤len2:=Nat.min_le_left ..
         have hm2:Nat.min len2 len≤len:=Nat.min_le_right ..
         generalize hmm:Nat.min len2 len=m at*
         simp only[den,Option.map_eq_some_iff]at hd hsv
         obtain⟨a,ha,rfl⟩:=hd
         obtain⟨b,hb,rfl⟩:=hsv
         obtain⟨vs,hdl,hc⟩:=SObj.list_ok hcs (hs.holds i2 _ b hi2 hb)
         have hd':=denL_take al (denL_drop o hdl)
         rw[intsOf_ok hns,denL_ints]at hd'
         have cell: ∀k,l≤k→k<l+m→ ∃us,denL η [.int kd (ns.getD k 0)]=some us∧us.length=1∧ ∀j v,us[j]?=some v→w.cell? ⟨b.1,(b.2+o)+(k*1+j),none⟩=some v:=fun k hk1 hk2=>by
          refine⟨[.int kd (ns.getD k 0)],rfl,rfl,fun j v hj=>?_⟩
          have hj0:j=0:=by
           have:=(List.getElem?_eq_some_iff.1 hj).1
           simp at this
           exact this
          subst hj0
          simp only[List.getElem?_cons_zero,Option.some.injEq]at hj
          subst hj
          have hk:k<al:=by omega
          have hg:((vs.drop o).take al)[k]?=some (.int kd (ns.getD k 0)):=by
           rw[←Option.some.inj hd']
           simp only[List.getElem?_map]
           rw[List.getElem?_eq_getElem (by omega)]
           simp[List.getD,List.getElem?_eq_getElem (show k<ns.length by omega)]
          rw[List.getElem?_take,if_pos hk,List.getElem?_drop]at hg
          have:=hc (o+k) _ hg
          rw[show b.2+o+(k*1+0)=b.2+(o+k)by omega]
          exact this
         obtain⟨us,hu1,hu2,hu3⟩:=rowCells (η:=η) (w:=w) (get:=fun k=>[.int kd (ns.getD k 0)]) m l cell
         have hone:allOneN (fun k=>[SV.int kd (ns.getD k 0)]) l m:=fun k _=>rfl
         obtain⟨w',r1,r2⟩:=arr_write (P:=P) hs hi ha (eo:=eo) (m:=m) (by omega) hu1 (allOneN_ok hone (by decide) hu1 hu3) (g2:=fun k=>[.int kd (ns.getD (l+k) 0)]) hu3
         have hrun:(Builtin.copy_ ats ty #[.slice (some ⟨a.1,a.2+eo*1,none⟩) len cp,.slice (some ⟨b.1,b.2+(o+l),none⟩) len2 (al-l)]).run P w= .ok (.int .i64 (m:Nat)) w':=by
          rw[q1]at hsz
          have hf:=run_firstCells_some (P:=P) w 1 m ⟨b.1,b.2+(o+l),none⟩ len2 (al-l) us hu1 (fun j v hj=>by
           rw[addr_add,show b.2+(o+l)+j=b.2+o+(l*1+j)by omega]
           exact hu2 j v hj)
          simp[Builtin.copy_,hats,htd,Builtin.lenOf,hmm,hsz,hf]at r1⊢
          simp[r1,goInt]
         exact⟨.value (.int .i64 (m:Nat)),_,w',η,by simp only[Sem.run_bind,hrun,Result.andThen_ok,Sem.run_pure],.inl rfl,rfl,.refl η,fun _ _=>rfl,r2,fun h=>by cases h⟩
        ·cases he
       ·cases he
      ·cases he
     ·cases he
    ·cases he
   ·cases he
  ·cases he
 ·exact evCopy_ok hE he ho hs hd hsv ats hats ty
def evClear(E:Env)(t:Nat)(x:SV)(h:SHeap):Option Res:=
 match E.ty t with
 |some ti=>match ti.desc with
  | .slice e=>match E.ty e with
   |some te=>match cellsOf te.zero with
    |some zl=>match x with
     | .slice i sz eo len _=>match h[i]? with
      |some (some (.arr sz' n cap get))=>if sz=te.size∧sz'=te.size∧zl.length=te.size∧te.size≠0∧allOne zl=true then
        some {v:= .tup [],wr:=some (i,.arr sz n cap fun k=>selL (decide (eo≤k∧k<eo+len)) zl (get k)),nw:=none,ob:=[eo+len≤n],rd:=[i]}else none
      |_=>none
     |_=>none
    |none=>none
   |none=>none
  |_=>none
 |none=>none
theorem evClear_ok{E:Env}{P:Program}(hE:E.ok P){t nid:Nat}{x:SV}{h:SHeap}{r:Res}(he:evClear E t x h=some r)(ho: ∀p∈r.ob,p){η:Nam}{φ:Feet}{w0 w:World}{Ef:Nat→Prop}
  (hs:Sat η φ h w0 Ef w) {xv:Value} (hx:den η x=some xv) (ats:Array TypeId) (hats:ats[0]?=some t) (ty:TypeId):
  Gives P (do pure (.value (←Builtin.clear_ ats ty #[xv]))) r η φ h nid w0 Ef w:=by
 unfold evClear at he
 split at he
 ·rename_i ti ht
  split at he
  ·rename_i e hde
   split at he
   ·rename_i te hte
    have htd:=(hE.ty _ _ ht).underlying (w:=w)
    rw[hde]at htd
    obtain⟨z,hz,hzd⟩:=(hE.ty _ _ hte).zero (w:=w)
    split at he
    ·rename_i zl hzl
     split at he
     ·rename_i i sz eo len cp
      split at he
      ·rename_i sz' n cap get hi
       split at he
       ·rename_i hc
        obtain⟨q1,q2,q3,q4,q5⟩:=hc
        subst q1
        subst q2
        cases he
        have g1:eo+len≤n:=ho _ (by simp)
        simp only[den,Option.map_eq_some_iff]at hx
        obtain⟨a,ha,rfl⟩:=hx
        obtain⟨zs,y1,y2⟩:=cellsOf_ok hzl (hzd η)
        have hlz:=denL_length y1
        have hne:zs≠[]:=fun e0=>by subst e0;simp at hlz;omega
        have hone:=allOne_ok q5 y1
        have hrl:(repL len zs).length=len*te.size:=by rw[repL_length,hlz,q3]
        have hrone: ∀v∈repL len zs,v.oneCell'=true:=fun v hv=>by
         rw[←range_rep zs hne len]at hv
         obtain⟨p,hp,rfl⟩:=List.mem_map.1 hv
         have hpl:p%zs.length<zs.length:=Nat.mod_lt _ (by rw[hlz,q3];omega)
         have : zs.toArray[p % zs.length]! = zs[p % zs.length] := by simp [hpl]
         rw[this]
         exact hone _ (List.getElem_mem hpl)
        obtain⟨w',r1,r2⟩:=arr_write (P:=P) hs hi ha (eo:=eo) (m:=len) g1 hrl hrone (g2:=fun _=>zl) (fun k hk=>⟨zs,y1,by omega,fun j v hj=>by
         have hjl:=(List.getElem?_eq_some_iff.1 hj).1
         have hkj:k*te.size+j<len*te.size:=by
          have:=Nat.mul_le_mul_right te.size (show k+1≤len by omega)
          rw[Nat.add_mul,Nat.one_mul]at this
          omega
         rw[←range_rep zs hne len,List.getElem?_map,List.getElem?_range (by rw[hlz,q3];exact hkj)]
         simp only[Option.map_some,Option.some.injEq]
         have:(k*te.size+j)%zs.length=j:=by
          rw[hlz,q3,Nat.mul_comm,Nat.mul_add_mod,Nat.mod_eq_of_lt (by omega)]
         rw[this]
         have hgj:=(List.getElem?_eq_some_iff.1 hj).2
         simp[hjl,hgj]⟩)
        have hrange:(Builtin.zeroCells z.cells len).toList=repL len zs:=by
         unfold Builtin.zeroCells
         rw[y2]
         simp only[Array.toList_map,Array.toList_range,List.size_toArray]
         rw[←range_rep zs hne len]
        have hrun:(Builtin.clear_ ats ty #[.slice (some ⟨a.1,a.2+eo*te.size,none⟩) len cp]).run P w= .ok (.tuple #[]) w':=by
         cases len with
         |zero=>
          simp only[repL,storeCells,Sem.run_pure,Result.ok.injEq,true_and]at r1
          subst r1
          simp[Builtin.clear_,hats,htd]
         |succ len=>simp[Builtin.clear_,hats,htd,hz,hrange,r1]
        exact⟨.value (.tuple #[]),_,w',η,by simp only[Sem.run_bind,hrun,Result.andThen_ok,Sem.run_pure],.inl rfl,rfl,.refl η,fun _ _=>rfl,r2,fun h=>by cases h⟩
       ·cases he
      ·cases he
     ·cases he
    ·cases he
   ·cases he
  ·cases he
 ·cases he
open Go
def evSliceH(E:Env)(t:Nat)(x:SV)(lo hi mx:Option SV):Option Res:=
 match x,lo,hi,mx with
 | .slice i sz eo len cap,some (.int _ m),none,none=>match E.ty t with
  |some ti=>match ti.desc with
   | .slice e=>match E.ty e with
    |some te=>if sz=te.size then pureR (.slice i sz (eo+if m.toNat=cap then 0 else m.toNat) (len-m.toNat) (cap-m.toNat)) [0≤m,m≤(len:Int),m≤(cap:Int)]else none
    |none=>none
   |_=>none
  |none=>none
 | .snil,some (.int _ m),none,none=>match E.ty t with
  |some ti=>match ti.desc with
   | .slice e=>match E.ty e with
    |some _=>pureR .snil [m=0]
    |none=>none
   |_=>none
  |none=>none
 |x,lo,hi,mx=>evSlice E t x lo hi mx
theorem evSliceH_ok{E:Env}{P:Program}(hE:E.ok P){t:Nat}{x:SV}{lo hi mx:Option SV}{r:Res}(h:evSliceH E t x lo hi mx=some r)(ho: ∀p∈r.ob,p){η:Nam}{a:Value}(ha:den η x=some a)
  {lv hv mv:Option Value} (hl: ∀s,lo=some s→ ∃v,lv=some v∧den η s=some v) (hln:lo=none→lv=none) (hh: ∀s,hi=some s→ ∃v,hv=some v∧den η s=some v) (hhn:hi=none→hv=none)
  (hm:mx=none→mv=none) (w:World):
  (r.wr=none∧r.nw=none)∧ ∃v,den η r.v=some v∧(Instr.sliceAt t a lv hv mv).run P w= .ok v w:=by
 unfold evSliceH at h
 split at h
 ·rename_i i sz eo len cap k m
  have hmn:=hm rfl;subst hmn
  have:=hhn rfl;subst this
  obtain⟨_,rfl,hx⟩:=hl _ rfl
  simp only[den,Option.some.injEq]at hx;subst hx
  split at h
  ·rename_i ti ht
   have hu:=(hE.ty _ _ ht).underlying (w:=w)
   split at h
   ·rename_i e hd
    rw[hd]at hu
    split at h
    ·rename_i te hte
     have hsz:=(hE.ty _ _ hte).sizeOf (w:=w)
     split at h
     ·rename_i hs;subst hs
      simp only[den,Option.map_eq_some_iff]at ha
      obtain⟨c,hc,rfl⟩:=ha
      simp only[pureR,Option.some.injEq]at h;subst h
      have h1:0≤m:=ho _ (by simp)
      have h2:m≤(len:Int):=ho _ (by simp)
      have h3:m≤(cap:Int):=ho _ (by simp)
      by_cases he:m.toNat=cap
      ·refine⟨⟨rfl,rfl⟩,.slice (some ⟨c.1,c.2+eo*te.size,none⟩) (len-m.toNat) (cap-m.toNat),by simp[den,hc,he],?_⟩
       simp[Instr.sliceAt,Instr.slice,hu,Instr.sliceBounds,hsz,addr_add,run_sliceBound h1 h2,he]
      ·have hne: ¬cap=m.toNat:=fun q=>he q.symm
       refine⟨⟨rfl,rfl⟩,.slice (some ⟨c.1,c.2+(eo+m.toNat)*te.size,none⟩) (len-m.toNat) (cap-m.toNat),by simp[den,hc,he],?_⟩
       simp[Instr.sliceAt,Instr.slice,hu,Instr.sliceBounds,hsz,addr_add,run_sliceBound h1 h2,hne,Nat.add_mul,Nat.add_assoc]
     ·cases h
    ·cases h
   ·cases h
  ·cases h
 ·rename_i k m
  have hmn:=hm rfl;subst hmn
  have:=hhn rfl;subst this
  obtain⟨_,rfl,hx⟩:=hl _ rfl
  simp only[den,Option.some.injEq]at hx;subst hx
  split at h
  ·rename_i ti ht
   have hu:=(hE.ty _ _ ht).underlying (w:=w)
   split at h
   ·rename_i e hd
    rw[hd]at hu
    split at h
    ·rename_i te hte
     have hsz:=(hE.ty _ _ hte).sizeOf (w:=w)
     simp only[den,Option.some.injEq]at ha
     subst ha
     simp only[pureR,Option.some.injEq]at h;subst h
     have h1:m=0:=ho _ (by simp)
     subst h1
     have hb:=fun c=>run_sliceBound (P:=P) (w:=w) (k:=k) (c:=c) (n:=0) (y:=0) (Int.le_refl 0) (Int.le_refl 0)
     refine⟨⟨rfl,rfl⟩,.slice none 0 0,rfl,?_⟩
     simp[Instr.sliceAt,Instr.slice,hu,Instr.sliceBounds,hsz,hb]
    ·cases h
   ·cases h
  ·cases h
 ·exact evSlice_ok hE h ho ha hl hln hh hhn hm w
end Go.Sy
/-
 Sy7: all plain operations under one name. No program is named.
-/
namespace Go.Sy
def ldL(ld:Operand→Option SV):List Operand→Option (List SV)
 |[]=>some []
 |x::xs=>match ld x,ldL ld xs with
  |some v,some vs=>some (v::vs)
  |_,_=>none
theorem ldL_ok{ld:Operand→Option SV}{η:Nam}{ρ:Operand→Value} : ∀{l:List Operand} {vs:List SV} (_: ∀x∈l,∀sv,ld x=some sv→den η sv=some (ρ x)),ldL ld l=some vs→denL η vs=some (l.map ρ)
 |[],vs,_,e=>by simp only[ldL,Option.some.injEq]at e;subst e;rfl
 |x::xs,vs,h,e=>by
  simp only[ldL]at e;split at e
  ·rename_i v vs' hv hvs;simp only[Option.some.injEq]at e;subst e;exact denL_cons.2 ⟨ρ x,xs.map ρ,h x (by simp) v hv,ldL_ok (fun y hy=>h y (by simp[hy])) hvs,rfl⟩
  ·cases e
def ldP(ld:Operand→Option SV):List (Nat×Operand)→Option (List (Nat×SV))
 |[]=>some []
 |(i,x)::xs=>match ld x,ldP ld xs with
  |some v,some vs=>some ((i,v)::vs)
  |_,_=>none
theorem ldP_ok{ld:Operand→Option SV}{η:Nam}{ρ:Operand→Value} : ∀{l:List (Nat×Operand)} {vs:List (Nat×SV)} (_: ∀x∈l.map (·.2),∀sv,ld x=some sv→den η sv=some (ρ x)),ldP ld l=some vs→
  (l.map fun(i,x)=>(i,ρ x)).length=vs.length∧ ∀(j i:Nat) (sv:SV),vs[j]?=some (i,sv)→ ∃v,den η sv=some v∧(l.map fun(i,x)=>(i,ρ x))[j]?=some (i,v)
 |[],vs,_,e=>by simp only[ldP,Option.some.injEq]at e;subst e;simp
 |(i,x)::xs,vs,h,e=>by
  simp only[ldP]at e;split at e
  ·rename_i v vs' hv hvs;simp only[Option.some.injEq]at e;subst e;obtain⟨h1,h2⟩:=ldP_ok (fun y hy=>h y (by simp at hy;simp[hy])) hvs;refine⟨by simpa using h1,fun j i' sv hj=>?_⟩;cases j with
   |zero=>
    simp only[List.getElem?_cons_zero,Option.some.injEq,Prod.mk.injEq]at hj;obtain⟨rfl,rfl⟩:=hj;exact⟨ρ x,h x (by simp) _ hv,by simp⟩
   |succ j=>simpa using h2 j i' sv (by simpa using hj)
  ·cases e
def ldO(ld:Operand→Option SV):Option Operand→Option (Option SV)
 |none=>some none
 |some x=>match ld x with
  |some v=>some (some v)
  |none=>none
def evLenH(E:Env)(t:Nat)(x:SV)(h:SHeap):Option Res:=
 match x with
 | .map i=>match E.ty t,h[i]? with
  |some ti,some (some (.cmap m))=>match ti.desc with
   | .map _ _=>pureR (.int .i64 m.length)
   |_=>none
  |_,_=>none
 |x=>evLen E t x
theorem evLenH_ok{E:Env}{P:Program}(hE:E.ok P){t:Nat}{x:SV}{h:SHeap}{r:Res}(he:evLenH E t x h=some r){η:Nam}{φ:Feet}{w0 w:World}{Ef:Nat→Prop}(hs:Sat η φ h w0 Ef w){a:Value}(ha:den η x=some a)(tys:Array TypeId)(htys:tys[0]?=some t)(ty:TypeId):
  (r.wr=none∧r.nw=none)∧ ∃v,den η r.v=some v∧(Builtin.len_ tys ty #[a]).run P w= .ok v w:=by
 unfold evLenH at he;split at he
 ·rename_i i;split at he
  ·rename_i ti m hti hi;have hu:=(hE.ty _ _ hti).underlying (w:=w);split at he
   ·rename_i hd;simp only[pureR,Option.some.injEq]at he;subst he;rw[hd]at hu;simp only[den,Option.map_eq_some_iff]at ha;obtain⟨am,ham,rfl⟩:=ha;have hob:w.heap[am.1]?=some (mapObj m):=hs.holds i _ am hi ham;have hg:=MapKept.run_getObj_map (P:=P) hob;refine⟨⟨rfl,rfl⟩,_,rfl,?_⟩;simp[Builtin.len_,htys,Sem.run_bind,hu,hg,mesF_length,goInt]
   ·cases he
  ·cases he
 ·exact evLen_ok hE he ha tys htys ty w
def ev1(E:Env)(op:Op)(ld:Operand→Option SV)(h:SHeap)(nid:Nat):Option Res:=
 match op with
 | .move x| .assign x=>match ld x with
  |some v=>pureR v
  |none=>none
 | .alloc t=>evAlloc E t nid
 | .box _ x=>match ld x with
  |some v=>evBox v nid
  |none=>none
 | .build t parts=>match ldP ld parts.toList with
  |some ps=>evBuild E t ps
  |none=>none
 | .buildSlice t len parts=>match ldP ld parts.toList with
  |some ps=>evBuildSlice E t len ps nid
  |none=>none
 | .load t x=>match ld x with
  |some v=>evLoad E t v h
  |none=>none
 | .store t x y=>match ld x,ld y with
  |some v,some u=>evStore E t v u h
  |_,_=>none
 | .nilCheck x=>match ld x with
  |some v=>evNil E v
  |none=>none
 | .binOp op t x y _=>match ld x,ld y with
  |some v,some u=>evBin E op t v u
  |_,_=>none
 | .unOp op _ x=>match ld x with
  |some v=>evUn op E.wrap v
  |none=>none
 | .convert s d x=>match ld x with
  |some v=>evConv E s d v
  |none=>none
 | .makeInterface t x=>match ld x with
  |some v=>evIface E t v
  |none=>none
 | .makeFunc f first cap=>match ldL ld first.toList,ldL ld cap.toList with
  |some a,some b=>evFn f a b
  |_,_=>none
 | .slice t x lo hi mx=>match ld x,ldO ld lo,ldO ld hi,ldO ld mx with
  |some v,some a,some b,some c=>evSliceH E t v a b c
  |_,_,_,_=>none
 | .fieldAddr t x f=>match ld x with
  |some v=>evFieldAddr E t v f
  |none=>none
 | .field t x f=>match ld x with
  |some v=>evField E t v f
  |none=>none
 | .indexAddr t x i=>match ld x,ld i with
  |some v,some u=>evIndexAddr E t v u
  |_,_=>none
 | .index t x i=>match ld x,ld i with
  |some v,some u=>evIndex E t v u
  |_,_=>none
 | .typeAssert x _ t ok=>match ld x with
  |some v=>evAssert E v t ok
  |none=>none
 | .extract x i=>match ld x with
  |some v=>evExtract v i
  |none=>none
 | .makeSlice t l c=>match ld l,ld c with
  |some a,some b=>evMake E t a b nid
  |_,_=>none
 | .call c=>match c.callee with
  | .builtin .len=>match ldL ld c.args.toList,c.argTypes[0]? with
   |some [v],some t=>evLenH E t v h
   |_,_=>none
  | .builtin .min=>match ldL ld c.args.toList with
   |some l=>evMin l
   |none=>none
  | .builtin .max=>match ldL ld c.args.toList with
   |some l=>evMax l
   |none=>none
  | .builtin .copy=>match ldL ld c.args.toList,c.argTypes[0]? with
   |some [v,u],some t=>evCopyH E t v u h
   |_,_=>none
  | .builtin .clear=>match ldL ld c.args.toList,c.argTypes[0]? with
   |some [v],some t=>evClear E t v h
   |_,_=>none
  |_=>none
 |_=>none
theorem evNil_ok{E:Env}{P:Program}(hE:E.ok P){x:SV}{r:Res}(h:evNil E x=some r){η:Nam}{a:Value}(ha:den η x=some a)(w:World)(o:Oper)(y:Operand)(ho:o.op= .nilCheck y)(ρ:Operand→Value)(hy:ρ y=a):
    (r.wr=none∧r.nw=none)∧ ∃v,den η r.v=some v∧(execOp ρ o).run P w= .ok (.value v) w:=by
  unfold evNil at h;simp only[execOp,ho,hy];split at h;case h_1 name t v b=>
    split at h
    · rename_i hah;simp only[pureR,Option.some.injEq]at h;subst h;have ha':=ha;simp only[den,denL,Option.bind_eq_some_iff,Option.map_eq_some_iff,Option.some.injEq]at ha;obtain⟨fs,⟨u,⟨x,hx,rfl⟩,_,rfl,rfl⟩,cs,hcs,rfl⟩:=ha;refine⟨⟨rfl,rfl⟩,_,ha',?_⟩;have:=hE.ahead t name hah x w;simp only[List.getElem?_toArray,List.getElem?_cons_zero,Sem.run_bind,run_program,Result.andThen_ok,this];simp
    · cases h
  all_goals first
    |(cases h;done)
    | (simp only [pureR, Option.some.injEq] at h; subst h
       simp only[den,Option.map_eq_some_iff,Option.bind_eq_some_iff]at ha;first
         |(obtain⟨b,hb,rfl⟩:=ha;exact⟨⟨rfl,rfl⟩,_,by simp only[den,hb,Option.map_some],rfl⟩)
         |(obtain⟨b,hb,c,hc,rfl⟩:=ha;exact⟨⟨rfl,rfl⟩,_,by simp only[den,hb,hc,Option.bind_some,Option.map_some],rfl⟩))
theorem ev1_ok{E:Env}{P:Program}(hE:E.ok P){o:Oper}{ld:Operand→Option SV}{h:SHeap}{nid:Nat}{r:Res}(he:ev1 E o.op ld h nid=some r)(hob: ∀p∈r.ob,p)
  {η:Nam} {φ:Feet} {w0 w:World} {Ef:Nat→Prop} (hs:Sat η φ h w0 Ef w) (hn:h[nid]?=some none) {ρ:Operand→Value} (hld: ∀x∈o.op.operands.toList,∀sv,ld x=some sv→den η sv=some (ρ x)):
  Gives P (execOp ρ o) r η φ h nid w0 Ef w:=by
 unfold ev1 at he
 split at he
 case h_1 x ho=>
  split at he
  ·rename_i v hv
   simp only[pureR,Option.some.injEq]at he;subst he
   exact⟨_,_,w,η,by simp only[execOp,ho];rfl,.inl rfl,hld _ (by simp[ho,Op.operands]) _ hv,.refl η,fun _ _=>rfl,hs,fun _ _=>⟨rfl,rfl,hld _ (by simp[ho,Op.operands]) _ hv⟩⟩
  ·cases he
 case h_2 x ho=>
  split at he
  ·rename_i v hv
   simp only[pureR,Option.some.injEq]at he;subst he
   exact⟨_,_,w,η,by simp only[execOp,ho];rfl,.inl rfl,hld _ (by simp[ho,Op.operands]) _ hv,.refl η,fun _ _=>rfl,hs,fun _ _=>⟨rfl,rfl,hld _ (by simp[ho,Op.operands]) _ hv⟩⟩
  ·cases he
 case h_3 t ho=>simp only[execOp,ho];exact evAlloc_ok hE he hs hn
 case h_4 t x ho=>
  split at he
  ·rename_i v hv;simp only[execOp,ho];exact evBox_ok he hs hn (hld _ (by simp[ho,Op.operands]) _ hv)
  ·cases he
 case h_5 t parts ho=>
  split at he
  ·rename_i ps hps
   obtain⟨h1,h2⟩:=ldP_ok (fun x hx=>hld x (by simpa[ho,Op.operands]using hx)) hps
   simp only[execOp,ho]
   exact Gives.plain hs (evBuild_ok hE he (by simpa using h1) (fun j i sv hj=>by simpa using h2 j i sv hj) w)
  ·cases he
 case h_6 t len parts ho=>
  split at he
  ·rename_i ps hps
   obtain⟨h1,h2⟩:=ldP_ok (fun x hx=>hld x (by simpa[ho,Op.operands]using hx)) hps
   simp only[execOp,ho]
   exact evBuildSlice_ok hE he hs hn (by simpa using h1) (fun j i sv hj=>by simpa using h2 j i sv hj)
  ·cases he
 case h_7 t x ho=>
  split at he
  ·rename_i v hv;simp only[execOp,ho];exact Gives.plain hs (evLoad_ok hE he hob hs (hld _ (by simp[ho,Op.operands]) _ hv))
  ·cases he
 case h_8 t x y ho=>
  split at he
  ·rename_i v u hv hu;simp only[execOp,ho];exact evStore_ok hE he hob hs (hld _ (by simp[ho,Op.operands]) _ hv) (hld _ (by simp[ho,Op.operands]) _ hu)
  ·cases he
 case h_9 x ho=>
  split at he
  ·rename_i v hv
   obtain⟨⟨h1,h2⟩,v',h3,h4⟩:=evNil_ok hE he (hld _ (by simp[ho,Op.operands]) _ hv) w o x ho ρ rfl
   exact⟨_,v',w,η,h4,.inl rfl,h3,.refl η,fun _ _=>rfl,by simp only[Res.heap,h1,h2];exact hs,fun _ _=>⟨rfl,rfl,h3⟩⟩
  ·cases he
 case h_10 op t x y yt ho=>
  split at he
  ·rename_i v u hv hu;simp only[execOp,ho];exact Gives.plain hs (evBin_ok hE he hob (hld _ (by simp[ho,Op.operands]) _ hv) (hld _ (by simp[ho,Op.operands]) _ hu) x y w)
  ·cases he
 case h_11 op t x ho=>
  split at he
  ·rename_i v hv;simp only[execOp,ho];exact Gives.plain hs (evUn_ok he hob (hld _ (by simp[ho,Op.operands]) _ hv) w)
  ·cases he
 case h_12 s d x ho=>
  split at he
  ·rename_i v hv;simp only[execOp,ho];exact Gives.plain hs (evConv_ok hE he hob (hld _ (by simp[ho,Op.operands]) _ hv) w)
  ·cases he
 case h_13 t x ho=>
  split at he
  ·rename_i v hv;simp only[execOp,ho];exact Gives.plain hs (evIface_ok hE he (hld _ (by simp[ho,Op.operands]) _ hv) w)
  ·cases he
 case h_14 f first cap ho=>
  split at he
  ·rename_i a b hav hbv
   simp only[evFn,pureR,Option.some.injEq]at he;subst he
   have h1:=ldL_ok (fun x hx=>hld x (by simp at hx;simp[ho,Op.operands,hx])) hav
   have h2:=ldL_ok (fun x hx=>hld x (by simp at hx;simp[ho,Op.operands,hx])) hbv
   simp only[execOp,ho]
   refine Gives.plain hs ⟨⟨rfl,rfl⟩,.func f (first.map ρ) (cap.map ρ),?_,rfl⟩
   simp only[den,h1,h2,Option.bind_some,Option.map_some]
   congr 2
   ·apply Array.ext';simp
   ·apply Array.ext';simp
  ·cases he
 case h_15 t x lo hi mx ho=>
  split at he
  ·rename_i v a b c hv hav hbv hcv
   simp only[execOp,ho]
   have key: ∀(x:Option Operand) (y:Option SV),(∀z,x=some z→z∈o.op.operands.toList)→ldO ld x=some y→(∀s,y=some s→ ∃v,x.map ρ=some v∧den η s=some v)∧(y=none→x.map ρ=none):=by
    intro x y hmem hxy
    cases x with
    |none=>simp only[ldO,Option.some.injEq]at hxy;subst hxy;exact⟨fun s e=>(by cases e),fun _=>rfl⟩
    |some x=>
     simp only[ldO]at hxy
     split at hxy
     ·rename_i u hu
      simp only[Option.some.injEq]at hxy;subst hxy
      exact⟨fun s e=>(by cases e;exact⟨ρ x,rfl,hld _ (hmem x rfl) _ hu⟩),fun e=>(by cases e)⟩
     ·cases hxy
   exact Gives.plain hs (evSliceH_ok hE he hob (hld _ (by simp[ho,Op.operands]) _ hv) (key _ _ (fun z hz=>by simp[ho,Op.operands,hz]) hav).1 (key _ _ (fun z hz=>by simp[ho,Op.operands,hz]) hav).2 (key _ _ (fun z hz=>by simp[ho,Op.operands,hz]) hbv).1 (key _ _ (fun z hz=>by simp[ho,Op.operands,hz]) hbv).2 (key _ _ (fun z hz=>by simp[ho,Op.operands,hz]) hcv).2 w)
  ·cases he
 case h_16 t x f ho=>
  split at he
  ·rename_i v hv;simp only[execOp,ho];exact Gives.plain hs (evFieldAddr_ok hE he hob (hld _ (by simp[ho,Op.operands]) _ hv) w)
  ·cases he
 case h_17 t x f ho=>
  split at he
  ·rename_i v hv;simp only[execOp,ho];exact Gives.plain hs (evField_ok hE he (hld _ (by simp[ho,Op.operands]) _ hv) w)
  ·cases he
 case h_18 t x i ho=>
  split at he
  ·rename_i v u hv hu;simp only[execOp,ho];exact Gives.plain hs (evIndexAddr_ok hE he hob (hld _ (by simp[ho,Op.operands]) _ hv) (hld _ (by simp[ho,Op.operands]) _ hu) w)
  ·cases he
 case h_19 t x i ho=>
  split at he
  ·rename_i v u hv hu;simp only[execOp,ho];exact Gives.plain hs (evIndex_ok hE he hob (hld _ (by simp[ho,Op.operands]) _ hv) (hld _ (by simp[ho,Op.operands]) _ hu) w)
  ·cases he
 case h_20 x xt t ok ho=>
  split at he
  ·rename_i v hv;simp only[execOp,ho];exact Gives.plain hs (evAssert_ok hE he (hld _ (by simp[ho,Op.operands]) _ hv) w)
  ·cases he
 case h_21 x i ho=>
  split at he
  ·rename_i v hv;simp only[execOp,ho];exact Gives.plain hs (evExtract_ok he (hld _ (by simp[ho,Op.operands]) _ hv) w)
  ·cases he
 case h_22 t l c ho=>
  split at he
  ·rename_i v u hv hu;simp only[execOp,ho];exact evMake_ok hE he hob hs hn (hld _ (by simp[ho,Op.operands]) _ hv) (hld _ (by simp[ho,Op.operands]) _ hu)
  ·cases he
 case h_23 c ho=>
  split at he
  ·rename_i hcal
   split at he
   ·rename_i v t hv ht
    have h1:=ldL_ok (fun x hx=>hld x (by simp at hx;simp[ho,Op.operands,Call.operands,hx])) hv
    obtain⟨u,us,h2,h2',h3⟩:=denL_cons.1 h1
    simp only[denL,Option.some.injEq]at h2'
    subst h2'
    have hargs:c.args.map ρ= #[u]:=by apply Array.ext';simpa using h3
    simp only[execOp,ho,resolve,hcal,invoke,builtin,pure_bind]
    rw[hargs]
    exact Gives.plain hs (evLenH_ok hE he hs h2 c.argTypes ht o.type)
   ·cases he
  ·rename_i hcal
   split at he
   ·rename_i l hl
    have h1:=ldL_ok (fun x hx=>hld x (by simp at hx;simp[ho,Op.operands,Call.operands,hx])) hl
    have hargs:c.args.map ρ=(c.args.toList.map ρ).toArray:=by apply Array.ext';simp
    simp only[execOp,ho,resolve,hcal,invoke,builtin,pure_bind]
    rw[hargs]
    exact Gives.plain hs (evMin_ok he h1 c.argTypes o.type w)
   ·cases he
  ·rename_i hcal
   split at he
   ·rename_i l hl
    have h1:=ldL_ok (fun x hx=>hld x (by simp at hx;simp[ho,Op.operands,Call.operands,hx])) hl
    have hargs:c.args.map ρ=(c.args.toList.map ρ).toArray:=by apply Array.ext';simp
    simp only[execOp,ho,resolve,hcal,invoke,builtin,pure_bind]
    rw[hargs]
    exact Gives.plain hs (evMax_ok he h1 c.argTypes o.type w)
   ·cases he
  ·rename_i hcal
   split at he
   ·rename_i v u t hv ht
    have h1:=ldL_ok (fun x hx=>hld x (by simp at hx;simp[ho,Op.operands,Call.operands,hx])) hv
    obtain⟨x,xs,h2,h2',h3⟩:=denL_cons.1 h1
    obtain⟨y,ys,h4,h4',h5⟩:=denL_cons.1 h2'
    simp only[denL,Option.some.injEq]at h4'
    subst h4'
    subst h5
    have hargs:c.args.map ρ= #[x,y]:=by apply Array.ext';simpa using h3
    simp only[execOp,ho,resolve,hcal,invoke,builtin,pure_bind]
    rw[hargs]
    exact evCopyH_ok hE he hob hs h2 h4 c.argTypes ht o.type
   ·cases he
  ·rename_i hcal
   split at he
   ·rename_i v t hv ht
    have h1:=ldL_ok (fun x hx=>hld x (by simp at hx;simp[ho,Op.operands,Call.operands,hx])) hv
    obtain⟨u,us,h2,h2',h3⟩:=denL_cons.1 h1
    simp only[denL,Option.some.injEq]at h2'
    subst h2'
    have hargs:c.args.map ρ= #[u]:=by apply Array.ext';simpa using h3
    simp only[execOp,ho,resolve,hcal,invoke,builtin,pure_bind]
    rw[hargs]
    exact evClear_ok hE he hob hs h2 c.argTypes ht o.type
   ·cases he
  ·cases he
 case h_24=>cases he
end Go.Sy
