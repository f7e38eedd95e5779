/-
  Parts: Sy8, Sy9.
-/
import Derived.Test.YthnhlkflkidemaaGreatDoorB7
import Derived.Laws.Append
set_option linter.unusedVariables false
set_option linter.unusedSimpArgs false
/-
 Sy8: append on symbolic slices. No program is named.
-/
namespace Go.Sy
structure App where
 ob:List Prop
 old:Option Nat
 len:Nat
 sz:Nat
 get:Nat→List SV
def evApp0(E:Env)(t:Nat)(s x:SV)(h:SHeap):Option App:=
  match E.ty t with
  |some ti=>match ti.desc with
    | .slice e=>match E.ty e with
      |some te=>if te.size=0 then none else if te.bytes=0 then none else match s,x with
        | .snil,.slice i2 sz2 eo2 len2 _=>match h[i2]? with
          |some (some o2)=>match o2.elems with
            |some (sz2',n2,get2)=>if sz2=te.size∧sz2'=te.size then
                some {ob:=[0<len2,eo2+len2≤n2,len2*te.bytes≤140737488355328],old:=none,len:=len2,sz:=te.size,get:=fun k=>get2 (eo2+k)}else none
            |none=>none
          |_=>none
        | .slice i sz 0 len cap,.slice i2 sz2 eo2 len2 _=>match h[i]?,h[i2]? with
          |some (some (.arr sz' n capO get)),some (some o2)=>match o2.elems with
            |some (sz2',n2,get2)=>if sz=te.size∧sz'=te.size∧sz2=te.size∧sz2'=te.size∧i≠i2 then
                some { ob := [len ≤ n, cap ≤ capO, eo2 + len2 ≤ n2, (len + len2) * te.bytes ≤ 140737488355328, allOneN get2 eo2 len2, cap ≤ 9223372036854775807], old := some i, len := len + len2, sz := te.size
                       get:=fun k=>selL (decide (k<len)) (get k) (get2 (eo2+(k-len)))}else none
            |none=>none
          |_,_=>none
        |_,_=>none
      |none=>none
    |_=>none
  |none=>none
theorem cap_bound(need t:Nat)(h:need≤140737488355328):need≤need+t%(2^63-need)∧need+t%(2^63-need)≤9223372036854775807:=by
 have:=Nat.mod_lt t (show 0<2^63-need by omega);omega
theorem evApp0_ok{E:Env}{P:Program}(hE:E.ok P){t:Nat}{s x:SV}{h:SHeap}{nid:Nat}{r:App}(he:evApp0 E t s x h=some r)(hob: ∀p∈r.ob,p)
  {η:Nam} {φ:Feet} {w0 w:World} {Ef:Nat→Prop} (hs:Sat η φ h w0 Ef w) (hn:h[nid]?=some none) {sv xv:Value} (hsv:den η s=some sv) (hxv:den η x=some xv) (ty:TypeId):
  ∃cap w' η',(Builtin.append_ #[t,t] ty #[sv,xv]).run P w= .ok (.slice (some ((η' nid).getD (0,0)|>fun a=>⟨a.1,a.2,none⟩)) r.len cap) w'∧(η' nid).isSome=true∧((η' nid).getD (0,0)).2=0∧r.len≤cap∧cap≤9223372036854775807∧
   η.le η'∧(∀i,i≠nid→η' i=η i)∧Sat η' φ ((match r.old with|some i=>h.set i (some .dead)|none=>h).set nid (some (.arr r.sz r.len cap r.get))) w0 Ef w':=by
 unfold evApp0 at he
 split at he
 ·rename_i ti ht
  split at he
  ·rename_i e hd
   split at he
   ·rename_i te hte
    obtain⟨info,z,hi1,hi2,hi3,hi4,hi5,hzs⟩:=(hE.ty _ _ hte).info
    have htd:=(hE.ty _ _ ht).desc
    rw[hd]at htd
    split at he
    ·cases he
    rename_i hts0
    split at he
    ·cases he
    rename_i htb0
    have hbb: ∀m,m*te.bytes≤140737488355328→m≤140737488355328:=fun m hm=>Nat.le_trans (Nat.le_mul_of_pos_right m (by omega)) hm
    split at he
    ·-- onto nil
     rename_i i2 sz2 eo2 len2 c2
     split at he
     ·rename_i o2 ho2
      split at he
      ·rename_i sz2' n2 get2 hel
       split at he
       ·rename_i hc
        obtain⟨rfl,rfl⟩:=hc
        cases he
        have hpos:0<len2:=hob _ (by simp)
        have hle2:eo2+len2≤n2:=hob _ (by simp)
        have hbd:len2*te.bytes≤140737488355328:=hob _ (by simp)
        simp only[den,Option.map_eq_some_iff,Option.some.injEq]at hsv hxv
        subst hsv
        obtain⟨b,hb,rfl⟩:=hxv
        obtain⟨us,hu1,hu2,hu3⟩:=rowCells (η:=η) (w:=w) len2 eo2 (fun k hk1 hk2=>SObj.elems_ok hel (hs.holds i2 _ b ho2 hb) k (by omega))
        have hrun:=run_append_nil (P:=P) w t ty e info z htd hi1 hi4 ⟨b.1,b.2+eo2*te.size,none⟩ len2 c2 us (by rw[hi2];exact hu1) (fun j v hj=>by
         rw[addr_add,Nat.add_assoc];exact hu2 j v hj) hpos (by have:=hbb len2 hbd;omega) (by rw[hi3];omega)
        have hcb:=cap_bound len2 (w.tape w.drawn (.appendCap len2 0 e)) (hbb len2 hbd)
        have hcap:grownCap w len2 0 e=len2+w.tape w.drawn (.appendCap len2 0 e)%(2^63-len2):=rfl
        rw[←hcap]at hcb
        have hfree:η nid=none:=hs.free fun o=>by rw[hn];simp
        have hle:=Nam.le_put (a:=(w.heap.size,0)) hfree
        refine⟨grownCap w len2 0 e,w.drew.alloc (.cells (us.toArray++Builtin.zeroCells z.cells (grownCap w len2 0 e-len2)) e),η.put nid (w.heap.size,0),by rw[hrun];simp[Nam.put_same],by simp[Nam.put_same],by simp[Nam.put_same],hcb.1,hcb.2,hle,fun i hi=>Nam.put_other η _ hi,?_⟩
        refine Sat.new (w:=w.drew) (Sat.world hs rfl ⟨rfl,rfl⟩) hn rfl (fun b hb=>hb.symm) ⟨rfl,e,us.toArray++Builtin.zeroCells z.cells (grownCap w len2 0 e-len2),by(show(w.heap.push _)[w.heap.size]?=_;simp),?_,hcb.1,fun k hk=>?_⟩
        ·simp only[Array.size_append,List.size_toArray,hu1,Builtin.zeroCells,Array.size_map,Array.size_range,hzs]
         rw[←Nat.add_mul]
         exact Nat.mul_le_mul_right _ (by omega)
        ·obtain⟨vs,a1,a2,a3⟩:=hu3 k hk
         refine⟨vs,denL_mono hle _ _ a1,a2,fun j v hj=>?_⟩
         have:=a3 j v hj
         rw[Array.getElem?_append,if_pos (by have:=(List.getElem?_eq_some_iff.1 this).1;simpa using this)]
         simpa using this
       ·cases he
      ·cases he
     ·cases he
    ·-- onto a slice of one's own
     rename_i i sz len cap i2 sz2 eo2 len2 c2
     split at he
     ·rename_i sz' n capO get o2 ho ho2
      split at he
      ·rename_i sz2' n2 get2 hel
       split at he
       ·rename_i hc
        obtain⟨hsz1,hsz2,hsz3,hsz4,hne⟩:=hc
        subst hsz1
        subst hsz2
        subst hsz3
        subst hsz4
        cases he
        have hlen:len≤n:=hob _ (by simp)
        have hcapO:cap≤capO:=hob _ (by simp)
        have hle2:eo2+len2≤n2:=hob _ (by simp)
        have hbd:(len+len2)*te.bytes≤140737488355328:=hob _ (by simp)
        have hone:allOneN get2 eo2 len2:=hob _ (by simp)
        simp only[den,Option.map_eq_some_iff]at hsv hxv
        obtain⟨a,ha,rfl⟩:=hsv
        obtain⟨b,hb,rfl⟩:=hxv
        obtain⟨h0,T,c,hw,hcs,hncap,hget⟩:=hs.holds i _ a ho ha
        obtain⟨us,hu1,hu2,hu3⟩:=rowCells (η:=η) (w:=w) len2 eo2 (fun k hk1 hk2=>SObj.elems_ok hel (hs.holds i2 _ b ho2 hb) k (by omega))
        obtain⟨os,ho1,ho2',ho3⟩:=rowCells (η:=η) (w:=w) (get:=get) (sz:=te.size) (b:=a.1) (o:=a.2) len 0 (fun k hk1 hk2=>by
         obtain⟨vs,x1,x2,x3⟩:=hget k (by omega)
         exact⟨vs,x1,x2,fun j v hj=>by simp[World.cell?,hw,h0,x3 j v hj]⟩)
        have hfree:η nid=none:=hs.free fun o=>by rw[hn];simp
        have hnid:i≠nid:=fun e=>by subst e;rw[ho]at hn;cases hn
        have hmulL:(len+len2)*te.size=len*te.size+len2*te.size:=Nat.add_mul ..
        have husone: ∀u∈us,u.oneCell'=true:=fun u hu=>by
         obtain⟨j,hj⟩:=List.mem_iff_getElem?.1 hu
         have hjl:=(List.getElem?_eq_some_iff.1 hj).1
         rw[hu1]at hjl
         have hts:0<te.size:=by omega
         have hkl:j/te.size<len2:=Nat.div_lt_of_lt_mul (by rw[Nat.mul_comm];exact hjl)
         obtain⟨vs,x1,x2,x3⟩:=hu3 (j/te.size) hkl
         have hm:j%te.size<vs.length:=by rw[x2];exact Nat.mod_lt _ hts
         have:=x3 (j%te.size) _ (List.getElem?_eq_getElem hm)
         rw[Nat.mul_comm,Nat.div_add_mod,hj]at this
         cases this
         exact allOne_ok (hone _ hkl) x1 _ (List.getElem_mem hm)
        -- what the new row reads as, wherever it lies
        have final: ∀(c':List Value) (η':Nam),η.le η'→(∀j,j<len*te.size→c'[j]?=os[j]?)→(∀j,j<len2*te.size→c'[len*te.size+j]?=us[j]?)→
          ∀k,k<len+len2→ ∃vs,denL η' (selL (decide (k<len)) (get k) (get2 (eo2+(k-len))))=some vs∧vs.length=te.size∧ ∀j v,vs[j]?=some v→c'[k*te.size+j]?=some v:=by
         intro c' η' hle' hc1 hc2 k hk
         have hkk: ∀m,m<te.size→k*te.size+m<(k+1)*te.size:=fun m hm=>by rw[Nat.add_mul,Nat.one_mul];omega
         by_cases hkl:k<len
         ·obtain⟨vs,x1,x2,x3⟩:=ho3 k hkl
          rw[Nat.zero_add]at x1
          refine⟨vs,by simp only[hkl,decide_true,selL_true];exact denL_mono hle' _ _ x1,x2,fun j v hj=>?_⟩
          have hjl:=(List.getElem?_eq_some_iff.1 hj).1
          have:=hkk j (by omega)
          have:=Nat.mul_le_mul_right te.size (show k+1≤len by omega)
          rw[hc1 _ (by omega)]
          exact x3 j v hj
         ·obtain⟨vs,x1,x2,x3⟩:=hu3 (k-len) (by omega)
          refine⟨vs,by simp only[hkl,decide_false,selL_false];exact denL_mono hle' _ _ x1,x2,fun j v hj=>?_⟩
          have hjl:=(List.getElem?_eq_some_iff.1 hj).1
          have e1:k*te.size=len*te.size+(k-len)*te.size:=by rw[←Nat.add_mul];congr 1;omega
          have h3:(k-len)*te.size+j<len2*te.size:=by
           have:=Nat.mul_le_mul_right te.size (show k-len+1≤len2 by omega)
           rw[Nat.add_mul,Nat.one_mul]at this
           omega
          rw[e1,Nat.add_assoc,hc2 _ h3]
          exact x3 j v hj
        by_cases hroom:len+len2≤cap
        ·-- there is room
         have hcapsz:=Nat.mul_le_mul_right te.size (Nat.le_trans hroom hcapO)
         obtain⟨w',r1,r2,r3,r4,r5⟩:=run_storeCells (P:=P) a.1 T us (a.2+len*te.size) 0 c.toList w (by simpa using hw) husone (by simp;omega)
         have hf:=run_firstCells_some (P:=P) w te.size len2 ⟨b.1,b.2+eo2*te.size,none⟩ len2 c2 us hu1 (fun j v hj=>by rw[addr_add,Nat.add_assoc];exact hu2 j v hj)
         have hrun:(Builtin.append_ #[t,t] ty #[.slice (some ⟨a.1,a.2+0*te.size,none⟩) len cap,.slice (some ⟨b.1,b.2+eo2*te.size,none⟩) len2 c2]).run P w= .ok (.slice (some ⟨a.1,a.2,none⟩) (len+len2) cap) w':=by
          simp[Builtin.append_,run_underlying htd,sizeOf,typeInfo,hi1,hi2,Builtin.lenOf,hroom,hf,addr_add,r1]
         have hup:Sat η φ (h.set i (some (.arr te.size (len+len2) cap fun k=>selL (decide (k<len)) (get k) (get2 (eo2+(k-len)))))) w0 Ef w':=by
          refine hs.upd ho ha rfl (fun b hb=>hb) r2 (fun b hb=>r3 b fun e=>hb e.symm) ⟨h0,T,(splice c.toList (a.2+len*te.size) us).toArray,?_,?_,hroom,fun k hk=>?_⟩ r5
          ·rw[r4,Nat.add_zero]
          ·simp only[List.size_toArray]
           have:=Nat.mul_le_mul_right te.size hcapO
           rw[splice_length _ _ _ (by simp;omega)];simp;omega
          ·have hsg: ∀p,(splice c.toList (a.2+len*te.size) us)[p]?=if a.2+len*te.size≤p∧p<a.2+len*te.size+us.length then us[p-(a.2+len*te.size)]? else c[p]?:=fun p=>by
            rw[splice_get _ _ _ (by simp;omega)];simp
           simp only[List.getElem?_toArray]
           refine final _ η (.refl η) (fun j hj=>?_) (fun j hj=>?_) k hk
           ·rw[hsg,if_neg (by omega)]
            have hjl:j<os.length:=by omega
            have:=ho2' j _ (List.getElem?_eq_getElem hjl)
            simp only[World.cell?,hw,h0,Nat.zero_mul,Nat.zero_add]at this
            rw[List.getElem?_eq_getElem hjl]
            simpa using this
           ·rw[hsg,if_pos (by omega),show len*te.size+j-(a.2+len*te.size)=j by omega]
         have hmv:=Sat.move (i:=i) (nid:=nid) (a:=a) (o:= .arr te.size (len+len2) cap fun k=>selL (decide (k<len)) (get k) (get2 (eo2+(k-len)))) hup (by
          rw[List.getElem?_set_self]
          rcases Nat.lt_or_ge i h.length with hl|hl
          ·exact hl
          ·rw[List.getElem?_eq_none hl]at ho;cases ho) ha (by rw[List.getElem?_set_ne hnid];exact hn) (fun b hb=>hb) (hup.holds i _ a (by
          rw[List.getElem?_set_self]
          rcases Nat.lt_or_ge i h.length with hl|hl
          ·exact hl
          ·rw[List.getElem?_eq_none hl]at ho;cases ho) ha)
         rw[List.set_set]at hmv
         refine⟨cap,w',η.put nid a,by simpa[Nam.put_same]using hrun,by simp[Nam.put_same],by simpa[Nam.put_same]using h0,hroom,?_,Nam.le_put hfree,fun j hj=>Nam.put_other η _ hj,hmv⟩
         exact hob (cap≤9223372036854775807) (by simp)
        ·-- a new array
         have hneed:=hbb (len+len2) hbd
         have hrun:=run_append_grow (P:=P) w t ty e info z htd hi1 hi4 ⟨a.1,a.2+0*te.size,none⟩ len cap os (by rw[hi2];exact ho1) (fun j v hj=>by
          have:=ho2' j v hj
          rw[addr_add];simpa using this) ⟨b.1,b.2+eo2*te.size,none⟩ len2 c2 us (by rw[hi2];exact hu1) (fun j v hj=>by
          rw[addr_add,Nat.add_assoc];exact hu2 j v hj) (by omega) (by omega) (by rw[hi3];exact growslice_fits (by omega) hbd)
         have hcb:=cap_bound (len+len2) (w.tape w.drawn (.appendCap (len+len2) cap e)) hneed
         have hcap:grownCap w (len+len2) cap e=len+len2+w.tape w.drawn (.appendCap (len+len2) cap e)%(2^63-(len+len2)):=rfl
         rw[←hcap]at hcb
         have hle:=Nam.le_put (a:=(w.heap.size,0)) hfree
         have hdead:Sat η φ (h.set i (some .dead)) w0 Ef w.drew:=Sat.world (hs.less ho (fun _ _ hb=>hb.elim) (fun hr=>by cases hr) (fun _ _=>trivial)) rfl ⟨rfl,rfl⟩
         refine⟨grownCap w (len+len2) cap e,w.drew.alloc (.cells (os.toArray++us.toArray++Builtin.zeroCells z.cells (grownCap w (len+len2) cap e-(len+len2))) e),η.put nid (w.heap.size,0),by rw[hrun];simp[Nam.put_same],by simp[Nam.put_same],by simp[Nam.put_same],hcb.1,hcb.2,hle,fun i hi=>Nam.put_other η _ hi,?_⟩
         refine Sat.new (w:=w.drew) hdead (by rw[List.getElem?_set_ne hnid];exact hn) rfl (fun b hb=>hb.symm) ⟨rfl,e,os.toArray++us.toArray++Builtin.zeroCells z.cells (grownCap w (len+len2) cap e-(len+len2)),by(show(w.heap.push _)[w.heap.size]?=_;simp),?_,hcb.1,fun k hk=>?_⟩
         ·simp only[Array.size_append,List.size_toArray,hu1,ho1,Builtin.zeroCells,Array.size_map,Array.size_range,hzs]
          rw[←Nat.add_mul,←Nat.add_mul]
          exact Nat.mul_le_mul_right _ (by omega)
         ·obtain⟨vs,x1,x2,x3⟩:=final (os++us) _ hle (fun j hj=>by rw[List.getElem?_append,if_pos (by omega)]) (fun j hj=>by rw[List.getElem?_append,if_neg (by omega)];congr 1;omega) k hk
          refine⟨vs,x1,x2,fun j v hj=>?_⟩
          have:=x3 j v hj
          have hlt:=(List.getElem?_eq_some_iff.1 this).1
          rw[Array.getElem?_append,if_pos (by simpa using hlt),List.append_toArray]
          simpa using this
       ·cases he
      ·cases he
     ·cases he
    ·cases he
   ·cases he
  ·cases he
 ·cases he
def evAppN(E:Env)(t:Nat)(s:SV)(h:SHeap):Option App:=
 match E.ty t with
 |some ti=>match ti.desc with
  | .slice e=>match E.ty e with
   |some te=>match s with
    | .slice i sz 0 len cap=>match h[i]? with
     |some (some (.arr sz' n capO get))=>if sz=te.size∧sz'=te.size then
       some {ob:=[len≤n,cap≤capO,len≤cap,cap≤9223372036854775807],old:=some i,len:=len,sz:=te.size,get:=get}else none
     |_=>none
    |_=>none
   |none=>none
  |_=>none
 |none=>none
theorem evAppN_ok{E:Env}{P:Program}(hE:E.ok P){t:Nat}{s:SV}{h:SHeap}{nid:Nat}{r:App}(he:evAppN E t s h=some r)(hob: ∀p∈r.ob,p)
  {η:Nam} {φ:Feet} {w0 w:World} {Ef:Nat→Prop} (hs:Sat η φ h w0 Ef w) (hn:h[nid]?=some none) {sv:Value} (hsv:den η s=some sv) (ty:TypeId):
  ∃cap w' η',(Builtin.append_ #[t,t] ty #[sv,.slice none 0 0]).run P w= .ok (.slice (some ((η' nid).getD (0,0)|>fun a=>⟨a.1,a.2,none⟩)) r.len cap) w'∧(η' nid).isSome=true∧((η' nid).getD (0,0)).2=0∧r.len≤cap∧cap≤9223372036854775807∧
   η.le η'∧(∀i,i≠nid→η' i=η i)∧Sat η' φ ((match r.old with|some i=>h.set i (some .dead)|none=>h).set nid (some (.arr r.sz r.len cap r.get))) w0 Ef w':=by
 unfold evAppN at he
 split at he
 ·rename_i ti ht
  split at he
  ·rename_i e hd
   split at he
   ·rename_i te hte
    obtain⟨info,z,hi1,hi2,hi3,hi4,hi5,hzs⟩:=(hE.ty _ _ hte).info
    have htd:=(hE.ty _ _ ht).desc
    rw[hd]at htd
    split at he
    ·rename_i i sz len cap
     split at he
     ·rename_i sz' n capO get ho
      split at he
      ·rename_i hc
       obtain⟨hsz1,hsz2⟩:=hc
       subst hsz1
       subst hsz2
       cases he
       have hlen:len≤n:=hob _ (by simp)
       have hcapO:cap≤capO:=hob (cap≤capO) (by simp)
       have hroom:len≤cap:=hob (len≤cap) (by simp)
       have hmax:cap≤9223372036854775807:=hob (cap≤9223372036854775807) (by simp)
       simp only[den,Option.map_eq_some_iff]at hsv
       obtain⟨a,ha,rfl⟩:=hsv
       obtain⟨h0,T,c,hw,hcs,hncap,hget⟩:=hs.holds i _ a ho ha
       have hfree:η nid=none:=hs.free fun o=>by rw[hn];simp
       have hnid:i≠nid:=fun e=>by subst e;rw[ho]at hn;cases hn
       have hrun:(Builtin.append_ #[t,t] ty #[.slice (some ⟨a.1,a.2+0*te.size,none⟩) len cap,.slice none 0 0]).run P w= .ok (.slice (some ⟨a.1,a.2,none⟩) len cap) w:=by
        simp[Builtin.append_,run_underlying htd,sizeOf,typeInfo,hi1,Builtin.lenOf,hroom,Builtin.firstCells,storeCells]
       have hil:i<h.length:=by
        rcases Nat.lt_or_ge i h.length with hl|hl
        ·exact hl
        ·rw[List.getElem?_eq_none hl]at ho;cases ho
       have hup:Sat η φ (h.set i (some (.arr te.size len cap get))) w0 Ef w:=hs.less ho (fun _ _ hb=>hb) (fun hr=>hr) (fun ad hh=>by
        obtain⟨g0,Ty,c',g1,g2,g3,g4⟩:=hh
        exact⟨g0,Ty,c',g1,Nat.le_trans (Nat.mul_le_mul_right _ hcapO) g2,hroom,fun k hk=>g4 k (by omega)⟩)
       have hmv:=Sat.move (i:=i) (nid:=nid) (a:=a) (o:= .arr te.size len cap get) hup (by rw[List.getElem?_set_self hil]) ha (by rw[List.getElem?_set_ne hnid];exact hn) (fun b hb=>hb) (hup.holds i _ a (by rw[List.getElem?_set_self hil]) ha)
       rw[List.set_set]at hmv
       exact⟨cap,w,η.put nid a,by simpa[Nam.put_same]using hrun,by simp[Nam.put_same],by simpa[Nam.put_same]using h0,hroom,hmax,Nam.le_put hfree,fun j hj=>Nam.put_other η _ hj,hmv⟩
      ·cases he
     ·cases he
    ·cases he
   ·cases he
  ·cases he
 ·cases he
def evApp(E:Env)(t:Nat)(s x:SV)(h:SHeap):Option App:=
 match x with
 | .osl _ i2 sz2 len2 c2=>match s with
  | .slice _ _ 0 len cap=>match evApp0 E t s (.slice i2 sz2 0 len2 c2) h with
   |some r=>some {r with ob:=(len≤cap)::r.ob}
   |none=>none
  |_=>none
 | .snil=>evAppN E t s h
 |x=>evApp0 E t s x h
theorem evApp0_slice{E:Env}{t i sz len cap i2 sz2 len2 c2:Nat}{h:SHeap}{r:App}(he:evApp0 E t (.slice i sz 0 len cap) (.slice i2 sz2 0 len2 c2) h=some r):
  ∃(ti:TI) (e:Nat) (te:TI) (n capO:Nat) (get get2:Nat→List SV),E.ty t=some ti∧ti.desc= .slice e∧E.ty e=some te∧sz=te.size∧h[i]?=some (some (.arr te.size n capO get))∧r.old=some i∧r.len=len+len2∧r.sz=te.size∧
   r.get=(fun k=>selL (decide (k<len)) (get k) (get2 (0+(k-len))))∧(len≤n)∈r.ob∧(cap≤capO)∈r.ob∧(cap≤9223372036854775807)∈r.ob:=by
 unfold evApp0 at he;split at he
 ·rename_i ti ht;split at he
  ·rename_i e hd;split at he
   ·rename_i te hte;split at he
    ·cases he
    split at he
    ·cases he
    split at he
    ·rename_i e1 e2;cases e1
    ·rename_i e1 e2;cases e1;cases e2;split at he
     ·rename_i sz' n capO get o2 ho ho2;split at he
      ·rename_i sz2' n2 get2 hel;split at he
       ·rename_i hc;obtain⟨hsz1,hsz2,hsz3,hsz4,hne⟩:=hc;subst hsz2;cases he;exact⟨ti,e,te,n,capO,get,get2,ht,hd,hte,hsz1,ho,rfl,rfl,rfl,rfl,by simp,by simp,by simp⟩
       ·cases he
      ·cases he
     ·cases he
    ·cases he
   ·cases he
  ·cases he
 ·cases he
theorem evApp_ok{E:Env}{P:Program}(hE:E.ok P){t:Nat}{s x:SV}{h:SHeap}{nid:Nat}{r:App}(he:evApp E t s x h=some r)(hob: ∀p∈r.ob,p)
  {η:Nam} {φ:Feet} {w0 w:World} {Ef:Nat→Prop} (hs:Sat η φ h w0 Ef w) (hn:h[nid]?=some none) {sv xv:Value} (hsv:den η s=some sv) (hxv:den η x=some xv) (ty:TypeId):
  ∃cap w' η',(Builtin.append_ #[t,t] ty #[sv,xv]).run P w= .ok (.slice (some ((η' nid).getD (0,0)|>fun a=>⟨a.1,a.2,none⟩)) r.len cap) w'∧(η' nid).isSome=true∧((η' nid).getD (0,0)).2=0∧r.len≤cap∧cap≤9223372036854775807∧
   η.le η'∧(∀i,i≠nid→η' i=η i)∧Sat η' φ ((match r.old with|some i=>h.set i (some .dead)|none=>h).set nid (some (.arr r.sz r.len cap r.get))) w0 Ef w':=by
 unfold evApp at he
 split at he
 ·rename_i b i2 sz2 len2 c2
  split at he
  ·rename_i i sz len cap
   split at he
   ·rename_i r0 he0
    cases he
    cases b with
    |true=>
     refine evApp0_ok hE he0 (fun p hp=>hob p (List.mem_cons_of_mem _ hp)) hs hn hsv (xv:=xv) ?_ ty
     rw[←hxv]
     simp[den]
    |false=>
     obtain⟨ti,e,te,n,capO,get,get2,h1,h2,h3,h4,h5,h6,h7,h8,h9,o1,o2,o3⟩:=evApp0_slice he0
     have hz:len2=0∧xv= .slice none 0 0:=by
      simp only[den]at hxv
      split at hxv
      ·rename_i hl
       exact⟨hl.1,by cases hxv;rfl⟩
      ·cases hxv
     obtain⟨rfl,rfl⟩:=hz
     have hN:evAppN E t (.slice i sz 0 len cap) h=some {ob:=[len≤n,cap≤capO,len≤cap,cap≤9223372036854775807],old:=some i,len:=len,sz:=te.size,get:=get} :=by
      simp[evAppN,h1,h2,h3,h4,h5]
     obtain⟨cp,w',η',a1,a2,a3,a4,a5,a6,a7,a8⟩:=evAppN_ok (P:=P) hE hN (fun p hp=>by
      simp only[List.mem_cons,List.not_mem_nil,or_false]at hp
      rcases hp with rfl|rfl|rfl|rfl
      ·exact hob _ (List.mem_cons_of_mem _ o1)
      ·exact hob _ (List.mem_cons_of_mem _ o2)
      ·exact hob _ List.mem_cons_self
      ·exact hob _ (List.mem_cons_of_mem _ o3)) hs hn hsv ty
     simp only at a1 a4 a8
     refine⟨cp,w',η',by rw[a1];simp only[h7,Nat.add_zero],a2,a3,by simp only[h7];omega,a5,a6,a7,?_⟩
     simp only[h6,h7,h8,h9]
     have hil:nid<(h.set i (some SObj.dead)).length:=by
      rw[List.length_set]
      rcases Nat.lt_or_ge nid h.length with hl|hl
      ·exact hl
      ·rw[List.getElem?_eq_none hl]at hn;cases hn
     have:=a8.less (i:=nid) (o:= .arr te.size len cp get) (o':= .arr te.size (len+0) cp fun k=>selL (decide (k<len)) (get k) (get2 (0+(k-len)))) (by rw[List.getElem?_set_self hil]) (fun _ _ hb=>hb) (fun hr=>hr) (fun ad hh=>by
      obtain⟨g0,Ty,c',g1,g2,g3,g4⟩:=hh
      refine⟨g0,Ty,c',g1,g2,by omega,fun k hk=>?_⟩
      obtain⟨vs,q1,q2⟩:=g4 k (by omega)
      exact⟨vs,by simp only[show k<len by omega,decide_true,selL_true];exact q1,q2⟩)
     rwa [List.set_set]at this
   ·cases he
  ·cases he
 ·have hx:xv= .slice none 0 0:=by
   simp only[den]at hxv
   cases hxv
   rfl
  subst hx
  exact evAppN_ok hE he hob hs hn hsv ty
 ·exact evApp0_ok hE he hob hs hn hsv hxv ty
def fcL{α:Type}(l:List α)(k:List α→Prop):Prop:=
 match l with
 |[]=>k []
 |x::xs=>fcL xs fun ys=>k (x::ys)
theorem fcL_eq{α:Type} : ∀(l:List α) (k:List α→Prop),fcL l k=k l
 |[],_=>rfl
 |_::xs,_=>fcL_eq xs _
def fcP(l:List Prop)(k:List Prop→Prop):Prop:=
 match l with
 |[]=>k []
 |x::xs=>fcP xs fun ys=>k (x::ys)
theorem fcP_eq: ∀(l:List Prop) (k:List Prop→Prop),fcP l k=k l
 |[],_=>rfl
 |_::xs,_=>fcP_eq xs _
def fcN(n:Nat)(k:Nat→Prop):Prop:=
 match n with
 |0=>k 0
 |n+1=>fcN n fun m=>k (m+1)
theorem fcN_eq: ∀(n:Nat) (k:Nat→Prop),fcN n k=k n
 |0,_=>rfl
 |n+1,_=>fcN_eq n _
def fcV(v:SV)(k:SV→Prop):Prop:=
 match v with
 | .agg cs=>fcL cs fun cs=>k (.agg cs)
 | .tup cs=>fcL cs fun cs=>k (.tup cs)
 | .fn f a b=>fcL a fun a=>fcL b fun b=>k (.fn f a b)
 | .bool b=>k (.bool b)
 | .int t n=>k (.int t n)
 | .str s=>k (.str s)
 | .ptr i o=>fcN i fun i=>fcN o fun o=>k (.ptr i o)
 | .eptr i sz j o=>fcN i fun i=>fcN o fun o=>k (.eptr i sz j o)
 | .aptr i o l j=>fcN i fun i=>fcN o fun o=>k (.aptr i o l j)
 | .pnil=>k .pnil
 | .slice i sz eo l c=>fcN i fun i=>k (.slice i sz eo l c)
 | .asl i o al l n=>fcN i fun i=>fcN o fun o=>k (.asl i o al l n)
 | .snil=>k .snil
 | .map i=>fcN i fun i=>k (.map i)
 | .mnil=>k .mnil
 | .yld i=>k (.yld i)
 | .osl b i sz l c=>fcN i fun i=>k (.osl b i sz l c)
 | .row i j l c=>fcN i fun i=>k (.row i j l c)
 | .rptr i j m=>fcN i fun i=>k (.rptr i j m)
 | .fnil=>k .fnil
 | .iface t v=>k (.iface t v)
 | .inil=>k .inil
 | .val v=>k (.val v)
theorem fcV_eq(v:SV)(k:SV→Prop):fcV v k=k v:=by
 cases v<;>simp[fcV,fcL_eq,fcN_eq]
def fcNs(l:List Nat)(k:List Nat→Prop):Prop:=
 match l with
 |[]=>k []
 |x::xs=>fcN x fun x=>fcNs xs fun ys=>k (x::ys)
theorem fcNs_eq: ∀(l:List Nat) (k:List Nat→Prop),fcNs l k=k l
 |[],_=>rfl
 |x::xs,k=>by
  rw[fcNs,fcN_eq,fcNs_eq xs]
def fcO(o:SObj)(k:SObj→Prop):Prop:=
 match o with
 | .cells cs=>fcL cs fun cs=>k (.cells cs)
 | .dead=>k .dead
 | .arr sz n cap get=>k (.arr sz n cap get)
 | .roc cs=>fcL cs fun cs=>k (.roc cs)
 | .roa sz n get=>k (.roa sz n get)
 | .glob g cs=>fcL cs fun cs=>k (.glob g cs)
 | .obj I=>k (.obj I)
 | .memo n F has=>k (.memo n F has)
 | .ext R=>k (.ext R)
 | .loopr T ps a b st p=>k (.loopr T ps a b st p)
 | .vec sz n get=>k (.vec sz n get)
 | .cmap m=>k (.cmap m)
 | .citer l c=>k (.citer l c)
 | .gmap g m=>k (.gmap g m)
 | .giter g l c=>k (.giter g l c)
 | .pack ns ob=>fcNs ns fun ns=>k (.pack ns ob)
 | .pool o n l g=>k (.pool o n l g)
theorem fcO_eq(o:SObj)(k:SObj→Prop):fcO o k=k o:=by
 cases o<;>simp[fcO,fcL_eq,fcNs_eq]
def AllP:List Prop→Prop
 |[]=>True
 |p::ps=>p∧AllP ps
theorem AllP_iff: ∀{l:List Prop},AllP l↔ ∀p∈l,p
 |[]=>by simp[AllP]
 |p::ps=>by rw[List.forall_mem_cons,AllP,AllP_iff (l:=ps)]
/-! ### Guards -/
def wB:Bool→Bool→Bool
 |true,b=>b
 |false,b=>!b
def gB:Option Bool→Bool→Bool
 |none,c=>c
 |some g,c=>g&&c
def guardOf(ops:List Oper)(o:Oper)(T:Tm):Option (Option Bool):=
 match o.guard with
 |none=>some none
 |some (j,want)=>match ops[j]? with
  |some oj=>match oj.dst with
   |some d=>match T[d]? with
    |some (some (gj,.bool b))=>some (some (gB gj (wB want b)))
    |_=>none
   |none=>none
  |none=>none
theorem guardOf_ok{ops:List Oper}{o:Oper}{T:Tm}{G:Option Bool}(h:guardOf ops o T=some G){η:Nam}{tmps:Array Value}(ht:TRel η T tmps):Region.wanted o (yielded ops.toArray tmps)=G.getD true:=by
 unfold guardOf at h;split at h
 ·rename_i hg;simp only[Option.some.injEq]at h;subst h;simp[Region.wanted,hg]
 ·rename_i j want hg;split at h
  ·rename_i oj hoj;split at h
   ·rename_i d hd;split at h
    ·rename_i gj b hT;simp only[Option.some.injEq]at h;subst h;have hy:yielded ops.toArray tmps j=if gj.getD true then some b else none:=by
      have hh:=ht.2 d gj (.bool b) hT;simp only[yielded,List.getElem?_toArray,hoj,Option.bind_some,hd];cases hgj:gj.getD true with
      |true=>
       obtain⟨v,h1,h2⟩:=hh.1 hgj;simp only[den,Option.some.injEq]at h1;subst h1;simp[h2]
      |false=>simp[hh.2 hgj,undef]
     simp only[Region.wanted,hg,hy,Option.getD_some];cases gj with
     |none=>cases want<;>cases b<;>rfl
     |some g=>cases g<;>cases want<;>cases b<;>rfl
    ·cases h
   ·cases h
  ·cases h
def under(G:Option Bool)(p:Prop):Prop:=
 match G with
 |none=>p
 |some c=>c=true→p
theorem under_ok{G:Option Bool}{p:Prop}(h:under G p)(hg:G.getD true=true):p:=by
 cases G with
 |none=>exact h
 |some c=>exact h hg
def gObs(G:Option Bool)(T:Tm)(h:SHeap):List Operand→List Prop
 |[]=>[]
 |x::xs=>match ldG T h x with
  |some (some g,_)=>under G (g=true)::gObs G T h xs
  |_=>gObs G T h xs
theorem gObs_ok{G:Option Bool}{T:Tm}{h:SHeap} : ∀{l:List Operand},(∀p∈gObs G T h l,p)→G.getD true=true→ ∀x∈l,∀g sv,ldG T h x=some (g,sv)→g.getD true=true
 |[],_,_,x,hx,_,_,_=>by cases hx
 |y::ys,ho,hG,x,hx,g,sv,e=>by
  rcases List.mem_cons.1 hx with rfl|hx
  ·cases g with
   |none=>rfl
   |some g=>
    simp only[gObs,e]at ho;exact under_ok (ho _ (List.mem_cons_self ..)) hG
  ·refine gObs_ok (l:=ys) (fun p hp=>ho p ?_) hG x hx g sv e;simp only[gObs];split
   ·exact List.mem_cons_of_mem _ hp
   ·exact hp
def ldv(T:Tm)(h:SHeap)(x:Operand):Option SV:=
 match ldG T h x with
 |some (_,v)=>some v
 |none=>none
theorem ldv_ok{T:Tm}{h:SHeap}{x:Operand}{v:SV}(e:ldv T h x=some v): ∃g,ldG T h x=some (g,v):=by
 unfold ldv at e;split at e
 ·rename_i g u hu;simp only[Option.some.injEq]at e;subst e;exact⟨g,hu⟩
 ·cases e
/-! ### One step -/
abbrev KS:=SE→St→List Prop→Prop
def calleeOf(E:Env)(T:Tm)(h:SHeap)(c:Call)(args:List SV):Option (Nat×List SV):=
 match c.callee with
 | .value f=>match ldv T h f with
  | some (.fn (.func k) first cap) => if E.fn k then some (k, (first ++ args) ++ cap) else none
  |_=>none
 | .invoke x name=>match ldv T h x with
  |some (.iface t v)=>match E.meth t name with
   |some k=>some (k,v::args)
   |none=>none
  |_=>none
 |_=>none
def yieldOf(T:Tm)(h:SHeap)(c:Call):Option Nat:=
 match c.callee with
 | .value f=>match ldv T h f with
  |some (.yld i)=>some i
  |_=>none
 |_=>none
def isAppend(c:Call):Bool:=
 match c.callee with
 | .builtin .append=>true
 |_=>false
def dummy(E:Env)(t:Nat):SV:=
 match E.ty t with
 |some ti=>ti.zero
 |none=> .val undef
def evSq(E:Env)(P:Program)(r:Option Nat)(o:Oper)(G:Option Bool)(s:St)(ob:List Prop)(K:KS):Prop:=
 match o.op with
 | .call c=>match isAppend c with
  |true=>match G,ldL (ldv s.T s.H) c.args.toList,c.argTypes.toList with
   |none,some [x,y],[t,t']=>if t=t' then match evApp E t x y (s.H++[none])with
     |some a=>AllP ((gObs none s.T s.H c.args.toList++a.ob)++ob)∧ ∀cap,a.len≤cap→cap≤9223372036854775807→
       fcL (putT s.T o.dst (some (none, .slice s.H.length a.sz 0 a.len cap))) fun T' =>
       fcL ((match a.old with | some i => (s.H ++ [none]).set i (some .dead) | none => s.H ++ [none]).set s.H.length (some (.arr a.sz a.len cap a.get))) fun H' => K .normal ⟨T', H', s.D⟩ []
     |none=>False
    else False
   |_,_,_=>False
  |false=>match ldL (ldv s.T s.H) c.args.toList with
   |some args=>match calleeOf E s.T s.H c args with
    |some (f,args')=>
     let call:Prop:=fcL args' fun args'=>CallP P f args' s.H fun ce H'=>
      match ce with
      | .ret v => fcV v fun v => fcL (putT s.T o.dst (some (none, v))) fun T' => fcL H' fun H' => K .normal ⟨T', H', s.D⟩ []
      | .panic v=>K (.panic v) ⟨s.T,H',s.D⟩ []
     match G with
     | none => fcP (gObs none s.T s.H c.operands.toList ++ ob) fun ob => AllP ob ∧ call
     | some g => fcP (gObs (some g) s.T s.H c.operands.toList ++ ob) fun ob => AllP ob ∧ (g = true → call) ∧ (g = false → fcL (putT s.T o.dst (some (some false, dummy E o.type))) fun T' => K .normal ⟨T', s.H, s.D⟩ [])
    |none=>match yieldOf s.T s.H c,G with
     | some i, none => fcP (gObs none s.T s.H c.operands.toList ++ ob) fun ob => AllP ob ∧ fcL args fun args => fcN i fun i => YieldP P i args s.H fun ce H' =>
      match ce with
      | .ret v => fcV v fun v => fcL (putT s.T o.dst (some (none, v))) fun T' => fcL H' fun H' => K .normal ⟨T', H', s.D⟩ []
      | .panic v=>K (.panic v) ⟨s.T,H',s.D⟩ []
     |_,_=>False
   |none=>False
 | .panic x=>match G,ldG s.T s.H x with
  |none,some (none,.iface t v)=>K (.panic (.iface t v)) s ob
  |_,_=>False
 | .lookup t x ix cok=>match G,ldG s.T s.H x,ldG s.T s.H ix,E.memo t with
  |none,some (none,.map i),some (none,.agg cs),some n=>match intsOf cs,s.H[i]? with
   |some (.i64,ks),some (some (.memo n' F has))=>fcP ob fun ob=>AllP ob∧n'=n∧ks.length=n∧ ∀(b:Bool) (v:Int),(b=true→v=F ks)→(b=false→v=0)→(ks∈has→b=true)→
     fcL (putT s.T o.dst (some (none, match cok with | true => .tup [.int .i64 v, .bool b] | false => .int .i64 v))) fun T' => K .normal ⟨T', s.H, s.D⟩ []
   |_,_=>False
  |none,some (none,.map i),some (none,.int .i64 k),none=>match E.cm t,s.H[i]? with
   |true,some (some (.cmap m))=>fcP ob fun ob=>AllP ob∧
     fcL (putT s.T o.dst (some (none, match cok with | true => .tup [.int .i64 (aval m k), .bool (ahas m k)] | false => .int .i64 (aval m k)))) fun T' => K .normal ⟨T', s.H, s.D⟩ []
   |_,_=>False
  |_,_,_,_=>False
 | .makeMap t none=>match G,E.memo t with
  |none,some n=>fcP ob fun ob=>AllP ob∧ ∃F:List Int→Int,
    fcL (putT s.T o.dst (some (none, .map s.H.length))) fun T' => fcL (s.H ++ [some (.memo n F [])]) fun H' => K .normal ⟨T', H', s.D⟩ []
  |none,none=>match E.cm t with
   | true => fcP ob fun ob => AllP ob ∧ fcL (putT s.T o.dst (some (none, .map s.H.length))) fun T' => fcL (s.H ++ [some (.cmap [])]) fun H' => K .normal ⟨T', H', s.D⟩ []
   |false=>False
  |_,_=>False
 | .mapUpdate t m ix x=>match G,ldG s.T s.H m,ldG s.T s.H ix,ldG s.T s.H x with
  |none,some (none,.map i),some (none,.agg cs),some (none,.int .i64 v)=>match intsOf cs,s.H[i]?,E.memo t with
   |some (.i64,ks),some (some (.memo n' F has)),some n=>fcP ob fun ob=>AllP ob∧n'=n∧ks.length=n∧v=F ks∧
     fcL (s.H.set i (some (.memo n F (ks :: has)))) fun H' => fcL (putT s.T o.dst (some (none, .val undef))) fun T' => K .normal ⟨T', H', s.D⟩ []
   |_,_,_=>False
  |none,some (none,.map i),some (none,.int .i64 k),some (none,.int .i64 v)=>match s.H[i]?,E.cm t with
   |some (some (.cmap c)),true=>fcP ob fun ob=>AllP ob∧
     fcL (s.H.set i (some (.cmap (aset c k v)))) fun H' => fcL (putT s.T o.dst (some (none, .val undef))) fun T' => K .normal ⟨T', H', s.D⟩ []
   |_,_=>False
  |_,_,_,_=>False
 | .mapEntry t m ix=>match G,ldG s.T s.H m,ldG s.T s.H ix,E.cm t with
  |none,some (none,.map i),some (none,.int .i64 k),true=>match s.H[i]? with
   |some (some (.cmap c))=>fcP ob fun ob=>AllP ob∧
     fcL (s.H.set i (some (.cmap (aent c k)))) fun H' => fcL (putT s.T o.dst (some (none, .tup [.int .i64 (aval c k), .int .i64 (apos c k)]))) fun T' => K .normal ⟨T', H', s.D⟩ []
   |_=>False
  |_,_,_,_=>False
 | .entryStore _ m st x=>match G,ldG s.T s.H m,ldG s.T s.H st,ldG s.T s.H x with
  |none,some (none,.map i),some (none,.int .i64 j),some (none,.int .i64 v)=>match s.H[i]? with
   |some (some (.cmap c))=>fcP ob fun ob=>AllP ob∧ ∃n:Nat,j=n∧n<c.length∧
     fcL (s.H.set i (some (.cmap (aput c n v)))) fun H' => fcL (putT s.T o.dst (some (none, .val undef))) fun T' => K .normal ⟨T', H', s.D⟩ []
   |_=>False
  |_,_,_,_=>False
 | .range t x=>match G,ldG s.T s.H x,E.cm t with
  |none,some (none,.map i),true=>match s.H[i]? with
   |some (some (.cmap c))=>fcP ob fun ob=>AllP ob∧
     fcL (putT s.T o.dst (some (none, .ptr s.H.length 0))) fun T' => fcL ((s.H.set i (some .dead)) ++ [some (.citer c none)]) fun H' => K .normal ⟨T', H', s.D⟩ []
   |_=>False
  |_,_,_=>False
 | .next x str=>match G,str,ldG s.T s.H x with
  |none,false,some (none,.ptr i 0)=>match s.H[i]? with
   |some (some (.citer left _))=>fcP ob fun ob=>AllP ob∧
     (left = [] → fcL (putT s.T o.dst (some (none, .tup [.bool false]))) fun T' => K .normal ⟨T', s.H, s.D⟩ []) ∧
     ∀ (r1 : List (Int × Int)) (p1 p2 : Int) (r2 : List (Int × Int)), left = r1 ++ (p1, p2) :: r2 → fcL (s.H.set i (some (.citer (r1 ++ r2) (some (p1, p2))))) fun H' =>
      fcL (putT s.T o.dst (some (none, .tup [.bool true, .int .i64 p1, .int .i64 p2]))) fun T' => K .normal ⟨T', H', s.D⟩ []
   |_=>False
  |_,_,_=>False
 | .entry x=>match G,ldG s.T s.H x with
  |none,some (none,.ptr i 0)=>match s.H[i]? with
   | some (some (.citer _ (some (k, v)))) => fcP ob fun ob => AllP ob ∧ fcL (putT s.T o.dst (some (none, .tup [.int .i64 k, .int .i64 v]))) fun T' => K .normal ⟨T', s.H, s.D⟩ []
   |_=>False
  |_,_=>False
 | .defer c=>match r,G,c.callee,c.args.toList with
  |none,none,.value f,[]=>match ldG s.T s.H f with
   | some (none, .fn g first cap) => fcL (putT s.T o.dst (some (none, .val undef))) fun T' => K .normal ⟨T', s.H, .fn g first cap :: s.D⟩ ob
   |_=>False
  |none,none,.value f,[x]=>match ldG s.T s.H f,ldG s.T s.H x with
   | some (none, .fn g [] cap), some (none, v) => fcL (putT s.T o.dst (some (none, .val undef))) fun T' => K .normal ⟨T', s.H, .fn g [v] cap :: s.D⟩ ob
   |_,_=>False
  |_,_,_,_=>False
 |_=>False
def datOf:SV→Option (Kd×List Int)
 | .int .i64 n=>some (.num,[n])
 | .bool b=>some (.bit,[match b with|true=>1|false=>0])
 | .agg cs=>match intsOf cs with
  |some (.i64,ks)=>some (.row,ks)
  |_=>none
 |_=>none
def datS:Kd→List Int→SV
 | .row,ks=> .agg (ks.map (SV.int .i64))
 | .num,ks=> .int .i64 (ks.headD 0)
 | .bit,ks=> .bool (!decide (ks.headD 0=0))
theorem datS_den{η:Nam}(b:Kd)(ks:List Int):den η (datS b ks)=some (datV b ks):=by
 cases b with
 |num=>rfl
 |bit=>rfl
 |row=>simp[datS,datV,den,denL_ints,intsV]
theorem datOf_ok{η:Nam}{v:SV}{b:Kd}{ks:List Int}(h:datOf v=some (b,ks)):den η v=some (datV b ks):=by
 unfold datOf at h;split at h
 ·simp only[Option.some.injEq,Prod.mk.injEq]at h;obtain⟨rfl,rfl⟩:=h;rfl
 ·rename_i b;simp only[Option.some.injEq,Prod.mk.injEq]at h;obtain⟨rfl,rfl⟩:=h;cases b<;>rfl
 ·split at h
  ·rename_i hi;simp only[Option.some.injEq,Prod.mk.injEq]at h;obtain⟨rfl,rfl⟩:=h;rw[intsOf_ok hi];simp[datV,den,denL_ints,intsV]
  ·cases h
 ·cases h
def AllL:Nat→(List Int→Prop)→Prop
 |0,p=>p []
 |n+1,p=> ∀x:Int,AllL n fun l=>p (x::l)
theorem AllL_at: ∀{n:Nat} {p:List Int→Prop},AllL n p→ ∀l,l.length=n→p l
 |0,_,h,l,hl=>by
  rw[List.length_eq_zero_iff]at hl;subst hl;exact h
 |n+1,_,h,x::l,hl=>AllL_at (h x) l (by simpa using hl)
def isGm(E:Env)(T:Tm)(h:SHeap)(op:Op):Option GShape:=
 match op with
 | .lookup t _ _ _=>E.gm t
 | .makeMap t none=>E.gm t
 | .mapUpdate t _ _ _=>E.gm t
 | .range t _=>E.gm t
 | .next x _=>match ldG T h x with
  |some (none,.ptr i 0)=>match h[i]? with
   |some (some (.giter g _ _))=>some g
   |_=>none
  |_=>none
 | .entry x=>match ldG T h x with
  |some (none,.ptr i 0)=>match h[i]? with
   |some (some (.giter g _ _))=>some g
   |_=>none
  |_=>none
 |_=>none
def evGm(g:GShape)(o:Oper)(G:Option Bool)(s:St)(ob:List Prop)(K:KS):Prop:=
 match o.op with
 | .lookup _ x ix cok=>match G,ldG s.T s.H x,ldG s.T s.H ix with
  |none,some (none,.map i),some (none,kx)=>match datOf kx,s.H[i]? with
   |some (b,ks),some (some (.gmap g' m))=>fcP ob fun ob=>AllP ob∧g'=g∧b=g.kb∧ks.length=g.kn∧AllL g.vn fun vs=>vs=gval g.vn m ks→
     fcV (match cok with | true => .tup [datS g.vb vs, .bool (ghas m ks)] | false => datS g.vb vs) fun v => fcL (putT s.T o.dst (some (none, v))) fun T' => K .normal ⟨T', s.H, s.D⟩ []
   |_,_=>False
  |_,_,_=>False
 | .makeMap _ none=>match G with
  | none => fcP ob fun ob => AllP ob ∧ fcL (putT s.T o.dst (some (none, .map s.H.length))) fun T' => fcL (s.H ++ [some (.gmap g [])]) fun H' => K .normal ⟨T', H', s.D⟩ []
  |_=>False
 | .mapUpdate _ m ix x=>match G,ldG s.T s.H m,ldG s.T s.H ix,ldG s.T s.H x with
  |none,some (none,.map i),some (none,kx),some (none,vx)=>match datOf kx,datOf vx,s.H[i]? with
   |some (b,ks),some (b2,vs),some (some (.gmap g' c))=>fcP ob fun ob=>AllP ob∧g'=g∧(b=g.kb∧ks.length=g.kn)∧(b2=g.vb∧vs.length=g.vn)∧
     fcL (s.H.set i (some (.gmap g' (gset c ks vs)))) fun H' => fcL (putT s.T o.dst (some (none, .val undef))) fun T' => K .normal ⟨T', H', s.D⟩ []
   |_,_,_=>False
  |_,_,_,_=>False
 | .range _ x=>match G,ldG s.T s.H x with
  |none,some (none,.map i)=>match s.H[i]? with
   |some (some (.gmap g' c))=>fcP ob fun ob=>AllP ob∧
     fcL (putT s.T o.dst (some (none, .ptr s.H.length 0))) fun T' => fcL ((s.H.set i (some .dead)) ++ [some (.giter g' c none)]) fun H' => K .normal ⟨T', H', s.D⟩ []
   |_=>False
  |_,_=>False
 | .next x str=>match G,str,ldG s.T s.H x with
  |none,false,some (none,.ptr i 0)=>match s.H[i]? with
   |some (some (.giter g left _))=>fcP ob fun ob=>AllP ob∧
     (left = [] → fcL (putT s.T o.dst (some (none, .tup [.bool false]))) fun T' => K .normal ⟨T', s.H, s.D⟩ []) ∧
     ∀ (r1 r2 : GL), AllL g.kn fun ks => AllL g.vn fun vs => left = r1 ++ (ks, vs) :: r2 → fcL (s.H.set i (some (.giter g (r1 ++ r2) (some (ks, vs))))) fun H' =>
      fcL (putT s.T o.dst (some (none, .tup [.bool true, datS g.kb ks, datS g.vb vs]))) fun T' => K .normal ⟨T', H', s.D⟩ []
   |_=>False
  |_,_,_=>False
 | .entry x=>match G,ldG s.T s.H x with
  |none,some (none,.ptr i 0)=>match s.H[i]? with
   | some (some (.giter g _ (some (ks, vs)))) => fcP ob fun ob => AllP ob ∧ fcL (putT s.T o.dst (some (none, .tup [datS g.kb ks, datS g.vb vs]))) fun T' => K .normal ⟨T', s.H, s.D⟩ []
   |_=>False
  |_,_=>False
 |_=>False
def evSp(E:Env)(P:Program)(r:Option Nat)(o:Oper)(G:Option Bool)(s:St)(ob:List Prop)(K:KS):Prop:=
 match isGm E s.T s.H o.op with
 |some g=>evGm g o G s ob K
 |none=>evSq E P r o G s ob K
theorem evGm_owed{g:GShape}{o:Oper}{G:Option Bool}{s:St}{ob:List Prop}{K:KS}(h:evGm g o G s ob K):AllP ob:=by
 unfold evGm at h;split at h
 ·split at h
  ·split at h
   ·rw[fcP_eq]at h;exact h.1
   ·exact h.elim
  ·exact h.elim
 ·split at h
  ·rw[fcP_eq]at h;exact h.1
  ·exact h.elim
 ·split at h
  ·split at h
   ·rw[fcP_eq]at h;exact h.1
   ·exact h.elim
  ·exact h.elim
 ·split at h
  ·split at h
   ·rw[fcP_eq]at h;exact h.1
   ·exact h.elim
  ·exact h.elim
 ·split at h
  ·split at h
   ·rw[fcP_eq]at h;exact h.1
   ·exact h.elim
  ·exact h.elim
 ·split at h
  ·split at h
   ·rw[fcP_eq]at h;exact h.1
   ·exact h.elim
  ·exact h.elim
 ·exact h.elim
def pickOf(op:Op):Option (Operand×Operand×Operand):=
 match op with
 | .pick c a b=>some (c,a,b)
 |_=>none
def evOp(E:Env)(P:Program)(r:Option Nat)(ops:List Oper)(o:Oper)(s:St)(ob:List Prop)(K:KS):Prop:=
 match guardOf ops o s.T with
 |none=>False
 |some G=>match pickOf o.op with
  |some (c,a,b)=>match ldG s.T s.H c,ldG s.T s.H a,ldG s.T s.H b with
   |some (gc,.bool cv),some (ga,av),some (gb,bv)=>
    fcV (selV cv av bv) fun v => fcL (putT s.T o.dst (some (G, v))) fun T' =>
    fcP (under G (gc.getD true = true) :: under G (cv = true → ga.getD true = true) :: under G (cv = false → gb.getD true = true) :: ob) fun ob => K .normal ⟨T', s.H, s.D⟩ ob
   |_,_,_=>False
  |none=>match ev1 E o.op (ldv s.T s.H) (s.H++[none]) s.H.length with
   |some q=>match q.wr,q.nw,G with
    | none, none, G => fcV q.v fun v => fcL (putT s.T o.dst (some (G, v))) fun T' => fcP ((gObs G s.T s.H o.op.operands.toList ++ q.ob.map (under G)) ++ ob) fun ob => K .normal ⟨T', s.H, s.D⟩ ob
    |some (i,x),none,none=>match Nat.blt i s.H.length with
     | true => fcV q.v fun v => fcL (putT s.T o.dst (some (none, v))) fun T' => fcO x fun x => fcL (s.H.set i (some x)) fun H' =>
      fcP ((gObs none s.T s.H o.op.operands.toList ++ q.ob) ++ ob) fun ob => K .normal ⟨T', H', s.D⟩ ob
     |false=>False
    | none, some x, none => fcV q.v fun v => fcL (putT s.T o.dst (some (none, v))) fun T' => fcO x fun x => fcL (s.H ++ [some x]) fun H' =>
      fcP ((gObs none s.T s.H o.op.operands.toList ++ q.ob) ++ ob) fun ob => K .normal ⟨T', H', s.D⟩ ob
    |some (i,x),none,some g=>match Nat.blt i s.H.length with
     | true => fcP ((gObs (some g) s.T s.H o.op.operands.toList ++ q.ob.map (under (some g))) ++ ob) fun ob => AllP ob ∧
       (g = true → fcV q.v fun v => fcL (putT s.T o.dst (some (none, v))) fun T' => fcO x fun x => fcL (s.H.set i (some x)) fun H' => K .normal ⟨T', H', s.D⟩ []) ∧
       (g = false → fcL (putT s.T o.dst (some (some false, dummy E o.type))) fun T' => K .normal ⟨T', s.H, s.D⟩ [])
     |false=>False
    | none, some x, some g => fcP ((gObs (some g) s.T s.H o.op.operands.toList ++ q.ob.map (under (some g))) ++ ob) fun ob => AllP ob ∧
      (g = true → fcV q.v fun v => fcL (putT s.T o.dst (some (none, v))) fun T' => fcO x fun x => fcL (s.H ++ [some x]) fun H' => K .normal ⟨T', H', s.D⟩ []) ∧
      (g = false → fcL (putT s.T o.dst (some (some false, dummy E o.type))) fun T' => K .normal ⟨T', s.H, s.D⟩ [])
    |_,_,_=>False
   |none=>evSp E P r o G s ob K
def Good(K:KS):Prop:= ∀se s ob,K se s ob→AllP ob
theorem AllP_app{a b:List Prop}(h:AllP (a++b)):AllP b:=by
 rw[AllP_iff]at h⊢;exact fun p hp=>h p (List.mem_append_right _ hp)
theorem evSq_owed{E:Env}{P:Program}{r:Option Nat}{o:Oper}{G:Option Bool}{s:St}{ob:List Prop}{K:KS}(hK:Good K)(h:evSq E P r o G s ob K):AllP ob:=by
 unfold evSq at h;split at h
 ·split at h
  ·split at h
   ·split at h
    ·split at h
     ·exact AllP_app h.1
     ·exact h.elim
    ·exact h.elim
   ·exact h.elim
  ·split at h
   ·split at h
    ·split at h
     ·rw[fcP_eq]at h;exact AllP_app h.1
     ·rw[fcP_eq]at h;exact AllP_app h.1
    ·split at h
     ·rw[fcP_eq]at h;exact AllP_app h.1
     ·exact h.elim
   ·exact h.elim
 ·split at h
  ·exact hK _ _ _ h
  ·exact h.elim
 ·split at h
  ·split at h
   ·rw[fcP_eq]at h;exact h.1
   ·exact h.elim
  ·split at h
   ·rw[fcP_eq]at h;exact h.1
   ·exact h.elim
  ·exact h.elim
 ·split at h
  ·rw[fcP_eq]at h;exact h.1
  ·split at h
   ·rw[fcP_eq]at h;exact h.1
   ·exact h.elim
  ·exact h.elim
 ·split at h
  ·split at h
   ·rw[fcP_eq]at h;exact h.1
   ·exact h.elim
  ·split at h
   ·rw[fcP_eq]at h;exact h.1
   ·exact h.elim
  ·exact h.elim
 ·split at h
  ·split at h
   ·rw[fcP_eq]at h;exact h.1
   ·exact h.elim
  ·exact h.elim
 ·split at h
  ·split at h
   ·rw[fcP_eq]at h;exact h.1
   ·exact h.elim
  ·exact h.elim
 ·split at h
  ·split at h
   ·rw[fcP_eq]at h;exact h.1
   ·exact h.elim
  ·exact h.elim
 ·split at h
  ·split at h
   ·rw[fcP_eq]at h;exact h.1
   ·exact h.elim
  ·exact h.elim
 ·split at h
  ·split at h
   ·rw[fcP_eq]at h;exact h.1
   ·exact h.elim
  ·exact h.elim
 ·split at h
  ·split at h
   ·rw[fcL_eq]at h;exact hK _ _ _ h
   ·exact h.elim
  ·split at h
   ·rw[fcL_eq]at h;exact hK _ _ _ h
   ·exact h.elim
  ·exact h.elim
 ·exact h.elim
theorem evSp_owed{E:Env}{P:Program}{r:Option Nat}{o:Oper}{G:Option Bool}{s:St}{ob:List Prop}{K:KS}(hK:Good K)(h:evSp E P r o G s ob K):AllP ob:=by
 unfold evSp at h;split at h
 ·exact evGm_owed h
 ·exact evSq_owed hK h
theorem evOp_owed{E:Env}{P:Program}{r:Option Nat}{ops:List Oper}{o:Oper}{s:St}{ob:List Prop}{K:KS}(hK:Good K)(h:evOp E P r ops o s ob K):AllP ob:=by
 unfold evOp at h;split at h
 ·exact h.elim
 ·split at h
  ·split at h
   ·rw[fcV_eq,fcL_eq,fcP_eq]at h;exact(hK _ _ _ h).2.2.2
   ·exact h.elim
  ·split at h
   ·split at h
    ·rw[fcV_eq,fcL_eq,fcP_eq]at h;exact AllP_app (hK _ _ _ h)
    ·split at h
     ·rw[fcV_eq,fcL_eq,fcO_eq,fcL_eq,fcP_eq]at h;exact AllP_app (hK _ _ _ h)
     ·exact h.elim
    ·rw[fcV_eq,fcL_eq,fcO_eq,fcL_eq,fcP_eq]at h;exact AllP_app (hK _ _ _ h)
    ·split at h
     ·rw[fcP_eq]at h;exact AllP_app h.1
     ·exact h.elim
    ·rw[fcP_eq]at h;exact AllP_app h.1
    ·exact h.elim
   ·exact evSp_owed hK h
end Go.Sy
