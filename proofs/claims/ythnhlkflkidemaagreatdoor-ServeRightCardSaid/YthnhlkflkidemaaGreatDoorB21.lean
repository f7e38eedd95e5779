/-
  Parts: Sy32, V1, TiB4.
-/
import Derived.Test.YthnhlkflkidemaaGreatDoorB20
import Derived.Test.YthnhlkflkidemaaGreatDoorB16
import Derived.Test.YthnhlkflkidemaaGreatDoorB17
import Derived.Test.YthnhlkflkidemaaGreatDoorB13
set_option linter.unusedVariables false
set_option linter.unusedSimpArgs false
/-
 Sy32: some blocks said as one, and said one by one again. No program is named.
-/
namespace Go.Sy
open Go
def getN(l:List (Option (Nat×Nat)))(j:Nat):Option (Nat×Nat):=
 match l[j]? with
 |some x=>x
 |none=>none
theorem NLe.getN{l l':List (Option (Nat×Nat))}(h:NLe l l'):Nam.le (getN l) (getN l'):=fun j a hj=>by
 unfold Go.Sy.getN at hj⊢;cases hl:l[j]? with
 |none=>rw[hl]at hj;cases hj
 |some x=>
  rw[hl]at hj;simp only at hj;subst hj;rw[h.2 j a hl]
def packR(ps:List (Nat×SObj)):OB where
 R l F w:= ∃φ:Nat→Nat→Prop,
  (∀p∈ps,∃a,getN l p.1=some a∧p.2.holds (getN l) a (φ p.1) w∧ ∀b,p.2.foot a (φ p.1) b→F b)∧
  ∀p∈ps,∀q∈ps,p.1≠q.1→ ∀a a' b,getN l p.1=some a→getN l q.1=some a'→p.2.foot a (φ p.1) b→ ¬q.2.foot a' (φ q.1) b
 mono:=by
  rintro l l' F w hn ⟨φ,h1,h2⟩
  have le:=hn.getN
  refine⟨φ,fun p hp=>?_,fun p hp q hq hne a a' b ha ha'=>?_⟩
  ·obtain⟨a,ha,hh,hf⟩:=h1 p hp
   exact⟨a,le _ _ ha,SObj.holds_mono le hh,hf⟩
  ·obtain⟨c,hc,_⟩:=h1 p hp
   obtain⟨c',hc',_⟩:=h1 q hq
   have e1:=(le _ _ hc).symm.trans ha
   have e2:=(le _ _ hc').symm.trans ha'
   simp only[Option.some.injEq]at e1 e2
   subst e1 e2
   exact h2 p hp q hq hne c c' b hc hc'
 near:=by
  rintro l F w w' hw ⟨φ,h1,h2⟩
  refine⟨φ,fun p hp=>?_,h2⟩
  obtain⟨a,ha,hh,hf⟩:=h1 p hp
  exact⟨a,ha,SObj.holds_local hh fun b hb=>hw b (hf b hb),hf⟩
def lookP(σ:List Nat):List (Nat×SObj)→Nat→Option SObj
 |[],_=>none
 |p::ps,k=>match σ[p.1]? with
  |some j=>match Nat.beq j k with
   |true=>some p.2
   |false=>lookP σ ps k
  |none=>lookP σ ps k
theorem lookP_some{σ:List Nat}{k:Nat}{x:SObj} : ∀{ps:List (Nat×SObj)},lookP σ ps k=some x→ ∃p∈ps,σ[p.1]?=some k∧p.2=x
 |[],h=>by cases h
 |p::ps,h=>by
  rw[lookP]at h;split at h
  ·rename_i j hj;split at h
   ·rename_i hb;have e:=Nat.eq_of_beq_eq_true hb;subst e;simp only[Option.some.injEq]at h;exact⟨p,List.mem_cons_self,hj,h⟩
   ·obtain⟨q,hq,r⟩:=lookP_some h;exact⟨q,List.mem_cons_of_mem _ hq,r⟩
  ·obtain⟨q,hq,r⟩:=lookP_some h;exact⟨q,List.mem_cons_of_mem _ hq,r⟩
theorem lookP_none{σ:List Nat}{k:Nat} : ∀{ps:List (Nat×SObj)},lookP σ ps k=none→ ∀p∈ps,σ[p.1]?≠some k
 |[],_,p,hp=>by cases hp
 |p::ps,h,q,hq=>by
  rw[lookP]at h;split at h
  ·rename_i j hj;split at h
   ·cases h
   ·rename_i hb;rcases List.mem_cons.1 hq with rfl|hq
    ·intro e;rw[hj]at e;simp only[Option.some.injEq]at e;rw[e,Nat.beq_refl]at hb;cases hb
    ·exact lookP_none h q hq
  ·rename_i hj;rcases List.mem_cons.1 hq with rfl|hq
   ·rw[hj];simp
   ·exact lookP_none h q hq
def injP(σ:List Nat):List (Nat×SObj)→Bool
 |[]=>true
 |p::ps=>(match σ[p.1]? with
  |some j=>match lookP σ ps j with
   |some _=>false
   |none=>true
  |none=>false)&&injP σ ps
theorem injP_ok{σ:List Nat} : ∀{ps:List (Nat×SObj)},injP σ ps=true→ ∀p∈ps,∀q∈ps,σ[p.1]?=σ[q.1]?→p=q
 |[],_,p,hp,_,_,_=>by cases hp
 |x::ps,h,p,hp,q,hq,e=>by
  rw[injP,Bool.and_eq_true]at h;obtain⟨h1,h2⟩:=h;have hx: ∀y∈ps,σ[x.1]?≠σ[y.1]?:=fun y hy e2=>by
   split at h1
   ·rename_i j hj;split at h1
    ·cases h1
    ·rename_i hl;exact lookP_none hl y hy (e2.symm.trans hj)
   ·cases h1
  rcases List.mem_cons.1 hp with e1|hp'<;>rcases List.mem_cons.1 hq with e2|hq'
  ·rw[e1,e2]
  ·rw[e1]at e;exact absurd e (hx q hq')
  ·rw[e2]at e;exact absurd e.symm (hx p hp')
  ·exact injP_ok h2 p hp' q hq' e
def PFits(F:Nat→Nat)(h:SHeap)(σ:List Nat):List (Nat×SObj)→Prop
 |[]=>True
 |p::ps=>(match σ[p.1]? with
  |some j=>match h[j]? with
   |some (some o)=>ObjLe F o p.2∧o.rw=true∧p.2.rw=true
   |_=>False
  |none=>False)∧PFits F h σ ps
theorem PFits.get{F:Nat→Nat}{h:SHeap}{σ:List Nat} : ∀{ps:List (Nat×SObj)},PFits F h σ ps→ ∀p∈ps,∃j o,σ[p.1]?=some j∧h[j]?=some (some o)∧ObjLe F o p.2∧o.rw=true∧p.2.rw=true
 |[],_,p,hp=>by cases hp
 |x::ps,hf,p,hp=>by
  obtain⟨h1,h2⟩:=hf;rcases List.mem_cons.1 hp with rfl|hp
  ·split at h1
   ·rename_i j hj;split at h1
    ·rename_i o ho;exact⟨j,o,hj,ho,h1⟩
    ·exact h1.elim
   ·exact h1.elim
  ·exact h2.get p hp
def packH(σ:List Nat)(ps:List (Nat×SObj))(i:Nat):Nat→SHeap→SHeap
 |_,[]=>[]
 |k,o::h=>(match Nat.beq k i with
  |true=>some (.pack σ (packR ps))
  |false=>match lookP σ ps k with
   |some _=>some .dead
   |none=>o)::packH σ ps i (k+1) h
theorem packH_length{σ:List Nat}{ps:List (Nat×SObj)}{i:Nat} : ∀(h:SHeap) (k:Nat),(packH σ ps i k h).length=h.length
 |[],_=>rfl
 |o::h,k=>by simp[packH,packH_length h]
theorem packH_get{σ:List Nat}{ps:List (Nat×SObj)}{i:Nat} : ∀(h:SHeap) (k j:Nat),(packH σ ps i k h)[j]?=(h[j]?).map fun o=>if k+j=i then some (.pack σ (packR ps))else match lookP σ ps (k+j)with
   |some _=>some .dead
   |none=>o
 |[],k,j=>by simp[packH]
 |o::h,k,0=>by
  simp only[packH,List.getElem?_cons_zero,Option.map_some,Nat.add_zero,Option.some.injEq];by_cases e:k=i
  ·subst e;simp
  ·have:Nat.beq k i=false:=by
    cases hb:Nat.beq k i with
    |false=>rfl
    |true=>exact absurd (Nat.eq_of_beq_eq_true hb) e
   rw[this,if_neg e]
 |o::h,k,j+1=>by
  simp only[packH,List.getElem?_cons_succ];rw[packH_get h (k+1) j,show k+1+j=k+(j+1)by omega]
theorem getN_map{η:Nam}{σ:List Nat}{m:Nat}(hm:η m=none):getN (σ.map η)=fun k=>η (sel σ m k):=by
 funext k;unfold getN sel;rw[List.getElem?_map];cases σ[k]? with
 |none=>exact hm.symm
 |some j=>rfl
theorem Sat.pack{η:Nam}{φ:Feet}{h:SHeap}{w0 w:World}{Ef:Nat→Prop}(s:Sat η φ h w0 Ef w){σ:List Nat}{ps:List (Nat×SObj)}{i:Nat}(hf:PFits (sel σ h.length) h σ ps)(hj:injP σ ps=true)(hi:(lookP σ ps i).isSome=true):
    ∃φ',Sat η φ' (packH σ ps i 0 h) w0 Ef w:=by
  have hfree:η h.length=none:=s.free fun o=>by rw[List.getElem?_eq_none (Nat.le_refl _)];simp
  have gN:=getN_map (σ:=σ) hfree
  have gA: ∀{k j},σ[k]?=some j→getN (σ.map η) k=η j:=fun{k j} e=>by rw[gN];simp only[sel,e]
  let F:Nat→Prop:=fun b=> ∃p∈ps,∃j a,σ[p.1]?=some j∧η j=some a∧p.2.foot a (φ j) b
  have hFo: ∀{b},F b→ ∃p∈ps,∃j a o,σ[p.1]?=some j∧η j=some a∧h[j]?=some (some o)∧o.rw=true∧o.foot a (φ j) b:=fun{b} ⟨p,hp,j,a,h1,h2,h3⟩=>by
    obtain⟨j',o,e1,e2,e3,e4,_⟩:=hf.get p hp
    rw[h1]at e1
    simp only[Option.some.injEq]at e1
    subst e1
    exact⟨p,hp,j,a,o,h1,h2,e2,e4,e3.foot a _ b h3⟩
  obtain⟨x0,hx0⟩:=Option.isSome_iff_exists.1 hi
  obtain⟨p0,hp0,hp0i,_⟩:=lookP_some hx0
  have key: ∀{j o},(packH σ ps i 0 h)[j]?=some (some o)→(j=i∧o= .pack σ (packR ps))∨(j≠i∧o= .dead∧ ∃o',h[j]?=some (some o'))∨(j≠i∧(∀p∈ps,σ[p.1]?≠some j)∧h[j]?=some (some o)):=fun{j o} e=>by
    rw[packH_get,Nat.zero_add]at e
    cases ho:h[j]? with
    |none=>rw[ho]at e;cases e
    |some q=>
      rw[ho]at e
      simp only[Option.map_some,Option.some.injEq]at e
      split at e
      · rename_i c
        simp only[Option.some.injEq]at e
        exact .inl ⟨c,e.symm⟩
      · rename_i c
        split at e
        · rename_i x hx
          simp only[Option.some.injEq]at e
          obtain⟨p,hp,hpk,_⟩:=lookP_some hx
          obtain⟨j',o',e1,e2,_⟩:=hf.get p hp
          rw[hpk]at e1
          simp only[Option.some.injEq]at e1
          subst e1
          exact .inr (.inl ⟨c,e.symm,o',ho.symm.trans e2⟩)
        · rename_i hx
          exact .inr (.inr ⟨c,lookP_none hx,by rw[←e]⟩)
  refine⟨fun j=>if j=i then F else φ j,?_⟩
  exact
    { size := s.size
      env:=s.env
      keep:=s.keep
      dom:=fun j a hja=>by
        obtain⟨o,ho⟩:=s.dom j a hja
        rw[packH_get,ho]
        simp only[Option.map_some,Option.some.injEq]
        split
        · exact⟨_,rfl⟩
        · split
          · exact⟨_,rfl⟩
          · exact⟨_,rfl⟩
      named:=fun j o ho=>by
        rcases key ho with⟨rfl,_⟩|⟨_,_,o',h1⟩|⟨_,_,h1⟩
        · obtain⟨j',o',e1,e2,_⟩:=hf.get p0 hp0
          rw[hp0i]at e1
          simp only[Option.some.injEq]at e1
          subst e1
          exact s.named _ _ e2
        · exact s.named _ _ h1
        · exact s.named _ _ h1
      holds:=fun j o a ho hja=>by
        rcases key ho with⟨rfl,rfl⟩|⟨_,rfl,_⟩|⟨hne,_,h1⟩
        · simp only[if_true]
          refine⟨fun k=>φ (sel σ h.length k),fun p hp=>?_,fun p hp q hq hne c c' b hc hc' hb hb'=>?_⟩
          · obtain⟨j',o',e1,e2,e3,e4,e5⟩:=hf.get p hp
            obtain⟨c,hc⟩:=s.named _ _ e2
            refine⟨c,by rw[gA e1];exact hc,?_,fun b hb=>⟨p,hp,j',c,e1,hc,?_⟩⟩
            · have:=e3.holds (s.holds _ _ _ e2 hc)
              rw[gN]
              simp only[sel,e1]at this⊢
              exact this
            · simp only[sel,e1]at hb
              exact hb
          · obtain⟨j1,o1,e1,e2,e3,e4,_⟩:=hf.get p hp
            obtain⟨j2,o2,f1,f2,f3,f4,_⟩:=hf.get q hq
            rw[gA e1]at hc
            rw[gA f1]at hc'
            simp only[sel,e1]at hb
            simp only[sel,f1]at hb'
            refine s.sep j1 j2 o1 o2 c c' b (fun e=>hne ?_) e2 f2 hc hc' e4 (e3.foot _ _ _ hb) (f3.foot _ _ _ hb')
            exact congrArg Prod.fst (injP_ok hj p hp q hq (by rw[e1,f1,e]))
        · exact tU
        · simp only[if_neg hne]
          exact s.holds j o a h1 hja
      bnd:=fun j o a b ho hja hb=>by
        rcases key ho with⟨rfl,rfl⟩|⟨_,rfl,_⟩|⟨hne,_,h1⟩
        · simp only[if_true]at hb
          obtain⟨p,_,j',a',o',_,h2,h3,_,h5⟩:=hFo hb
          exact s.bnd j' o' a' b h3 h2 h5
        · exact hb.elim
        · simp only[if_neg hne]at hb
          exact s.bnd j o a b h1 hja hb
      own:=fun j o a b ho hja hr hb=>by
        rcases key ho with⟨rfl,rfl⟩|⟨_,rfl,_⟩|⟨hne,_,h1⟩
        · simp only[if_true]at hb
          obtain⟨p,_,j',a',o',_,h2,h3,h4,h5⟩:=hFo hb
          exact s.own j' o' a' b h3 h2 h4 h5
        · cases hr
        · simp only[if_neg hne]at hb
          exact s.own j o a b h1 hja hr hb
      sep:=fun j k oj ok aj ak b hne hoj hok haj hak hr hb=>by
        rcases key hoj with⟨rfl,rfl⟩|⟨_,rfl,_⟩|⟨hnj,hnj2,h1⟩
        · simp only[if_true]at hb
          obtain⟨p,hp,j',a',o',g1,h2,h3,h4,h5⟩:=hFo hb
          rcases key hok with⟨rfl,_⟩|⟨_,rfl,_⟩|⟨hnk,hnk2,k1⟩
          · exact absurd rfl hne
          · exact fun q=>q
          · simp only[if_neg hnk]
            exact s.sep j' k o' ok a' ak b (fun e=>hnk2 p hp (by rw[←e];exact g1)) h3 k1 h2 hak h4 h5
        · cases hr
        · simp only[if_neg hnj]at hb
          rcases key hok with⟨rfl,rfl⟩|⟨_,rfl,_⟩|⟨hnk,_,k1⟩
          · simp only[if_true]
            intro hb2
            obtain⟨p,hp,j',a',o',g1,h2,h3,h4,h5⟩:=hFo hb2
            exact s.sep j j' oj o' aj a' b (fun e=>hnj2 p hp (by rw[e];exact g1)) h1 h3 haj h2 hr hb h5
          · exact fun q=>q
          · simp only[if_neg hnk]
            exact s.sep j k oj ok aj ak b hne h1 k1 haj hak hr hb}
theorem entPack{n:Nat}{T:Tm}{H:SHeap}{D:List SV}(σ:List Nat)(ps:List (Nat×SObj))(i:Nat)(hf:PFits (sel σ H.length) H σ ps)(hj:injP σ ps=true)(hi:(lookP σ ps i).isSome=true):
  Ent n ⟨T,H,D⟩ ⟨T,packH σ ps i 0 H,D⟩:=by
 intro η φ w0 Ef w a hn hs hT hD;obtain⟨φ',s'⟩:=hs.pack hf hj hi;exact⟨η,φ',fun _ _=>rfl,by rw[packH_length];exact hn,s',hT,hD⟩
def DeadP(h:SHeap)(σ:List Nat)(i:Nat):List (Nat×SObj)→Prop
 |[]=>True
 |p::ps=>(match σ[p.1]? with
  |some j=>match Nat.beq j i with
   |true=>True
   |false=>match h[j]? with
    |some (some .dead)=>True
    |_=>False
  |none=>False)∧DeadP h σ i ps
theorem DeadP.get{h:SHeap}{σ:List Nat}{i:Nat} : ∀{ps:List (Nat×SObj)},DeadP h σ i ps→ ∀p∈ps,∃j,σ[p.1]?=some j∧(j=i∨h[j]?=some (some .dead))
 |[],_,p,hp=>by cases hp
 |x::ps,hd,p,hp=>by
  obtain⟨h1,h2⟩:=hd;rcases List.mem_cons.1 hp with e|hp'
  ·subst e;split at h1
   ·rename_i j hj;split at h1
    ·rename_i hb;exact⟨j,hj,.inl (Nat.eq_of_beq_eq_true hb)⟩
    ·split at h1
     ·rename_i ho;exact⟨j,hj,.inr ho⟩
     ·exact h1.elim
   ·exact h1.elim
  ·exact h2.get p hp'
def unH(F:Nat→Nat)(σ:List Nat)(ps:List (Nat×SObj)):Nat→SHeap→SHeap
 |_,[]=>[]
 |k,o::h=>(match lookP σ ps k with
  |some x=>some (renO F x)
  |none=>o)::unH F σ ps (k+1) h
theorem unH_length{F:Nat→Nat}{σ:List Nat}{ps:List (Nat×SObj)} : ∀(h:SHeap) (k:Nat),(unH F σ ps k h).length=h.length
 |[],_=>rfl
 |o::h,k=>by simp[unH,unH_length h]
theorem unH_get{F:Nat→Nat}{σ:List Nat}{ps:List (Nat×SObj)} : ∀(h:SHeap) (k j:Nat),(unH F σ ps k h)[j]?=(h[j]?).map fun o=>match lookP σ ps (k+j)with
   |some x=>some (renO F x)
   |none=>o
 |[],k,j=>by simp[unH]
 |o::h,k,0=>by simp[unH]
 |o::h,k,j+1=>by
  simp only[unH,List.getElem?_cons_succ];rw[unH_get h (k+1) j,show k+1+j=k+(j+1)by omega]
theorem Sat.unpack{η:Nam}{φ:Feet}{h:SHeap}{w0 w:World}{Ef:Nat→Prop}(s:Sat η φ h w0 Ef w){σ:List Nat}{ps:List (Nat×SObj)}{i:Nat}(hi:h[i]?=some (some (.pack σ (packR ps))))(hj:injP σ ps=true)(hil:(lookP σ ps i).isSome=true)(hd:DeadP h σ i ps):
    ∃φ',Sat η φ' (unH (sel σ h.length) σ ps 0 h) w0 Ef w:=by
  have hfree:η h.length=none:=s.free fun o=>by rw[List.getElem?_eq_none (Nat.le_refl _)];simp
  have gN:=getN_map (σ:=σ) hfree
  have gA: ∀{k j},σ[k]?=some j→getN (σ.map η) k=η j:=fun{k j} e=>by rw[gN];simp only[sel,e]
  obtain⟨ai,hai⟩:=s.named i _ hi
  obtain⟨φ0,r1,r2⟩:(packR ps).R (σ.map η) (φ i) w:=s.holds i _ ai hi hai
  let φ':Feet:=fun j b=>(∃p∈ps,σ[p.1]?=some j∧φ0 p.1 b)∨((∀p∈ps,σ[p.1]?≠some j)∧φ j b)
  have e1: ∀p∈ps,∀j,σ[p.1]?=some j→φ' j=φ0 p.1:=fun p hp j hpj=>by
    funext b
    refine propext ⟨?_,fun hb=> .inl ⟨p,hp,hpj,hb⟩⟩
    rintro(⟨q,hq,hqj,hb⟩|⟨hn,_⟩)
    · have:=injP_ok hj p hp q hq (hpj.trans hqj.symm)
      rw[this]
      exact hb
    · exact absurd hpj (hn p hp)
  have e2: ∀j,(∀p∈ps,σ[p.1]?≠some j)→φ' j=φ j:=fun j hn=>by
    funext b
    refine propext ⟨?_,fun hb=> .inr ⟨hn,hb⟩⟩
    rintro(⟨q,hq,hqj,_⟩|⟨_,hb⟩)
    · exact absurd hqj (hn q hq)
    · exact hb
  have key: ∀{j o},(unH (sel σ h.length) σ ps 0 h)[j]?=some (some o)→(∃p∈ps,σ[p.1]?=some j∧o=renO (sel σ h.length) p.2)∨((∀p∈ps,σ[p.1]?≠some j)∧h[j]?=some (some o)):=fun{j o} e=>by
    rw[unH_get,Nat.zero_add]at e
    cases ho:h[j]? with
    |none=>rw[ho]at e;cases e
    |some q=>
      rw[ho]at e
      simp only[Option.map_some,Option.some.injEq]at e
      split at e
      · rename_i x hx
        simp only[Option.some.injEq]at e
        obtain⟨p,hp,hpk,hx2⟩:=lookP_some hx
        exact .inl ⟨p,hp,hpk,by rw[hx2];exact e.symm⟩
      · rename_i hx
        exact .inr ⟨lookP_none hx,by rw[←e]⟩
  obtain⟨x0,hx0⟩:=Option.isSome_iff_exists.1 hil
  obtain⟨p0,hp0,hp0i,_⟩:=lookP_some hx0
  have at': ∀p∈ps,∀j,σ[p.1]?=some j→ ∃o,h[j]?=some (some o):=fun p hp j hpj=>by
    obtain⟨j',h1,h2⟩:=hd.get p hp
    rw[hpj]at h1
    simp only[Option.some.injEq]at h1
    subst h1
    rcases h2 with rfl|h2
    · exact⟨_,hi⟩
    · exact⟨_,h2⟩
  have foot: ∀p∈ps,∀j a b,σ[p.1]?=some j→η j=some a→(renO (sel σ h.length) p.2).foot a (φ' j) b→φ i b:=fun p hp j a b hpj hja hb=>by
    rw[renO_foot,e1 p hp j hpj]at hb
    obtain⟨c,hc,_,hF⟩:=r1 p hp
    rw[gA hpj,hja]at hc
    simp only[Option.some.injEq]at hc
    subst hc
    exact hF b hb
  refine⟨φ',?_⟩
  exact
    { size := s.size
      env:=s.env
      keep:=s.keep
      dom:=fun j a hja=>by
        obtain⟨o,ho⟩:=s.dom j a hja
        rw[unH_get,ho]
        simp only[Option.map_some,Option.some.injEq]
        split
        · exact⟨_,rfl⟩
        · exact⟨_,rfl⟩
      named:=fun j o ho=>by
        rcases key ho with⟨p,hp,hpj,_⟩|⟨_,h1⟩
        · obtain⟨o',h1⟩:=at' p hp j hpj
          exact s.named _ _ h1
        · exact s.named _ _ h1
      holds:=fun j o a ho hja=>by
        rcases key ho with⟨p,hp,hpj,rfl⟩|⟨hn,h1⟩
        · obtain⟨c,hc,hh,_⟩:=r1 p hp
          rw[gA hpj,hja]at hc
          simp only[Option.some.injEq]at hc
          subst hc
          rw[e1 p hp j hpj]
          exact(renO_holds gN.symm _ _ _ _).2 hh
        · rw[e2 j hn]
          exact s.holds j o a h1 hja
      bnd:=fun j o a b ho hja hb=>by
        rcases key ho with⟨p,hp,hpj,rfl⟩|⟨hn,h1⟩
        · exact s.bnd i _ ai b hi hai (foot p hp j a b hpj hja hb)
        · rw[e2 j hn]at hb
          exact s.bnd j o a b h1 hja hb
      own:=fun j o a b ho hja hr hb=>by
        rcases key ho with⟨p,hp,hpj,rfl⟩|⟨hn,h1⟩
        · exact s.own i _ ai b hi hai rfl (foot p hp j a b hpj hja hb)
        · rw[e2 j hn]at hb
          exact s.own j o a b h1 hja hr hb
      sep:=fun j k oj ok aj ak b hne hoj hok haj hak hr hb=>by
        rcases key hoj with⟨p,hp,hpj,rfl⟩|⟨hnj,h1⟩
        · have hF:=foot p hp j aj b hpj haj hb
          rcases key hok with⟨q,hq,hqk,rfl⟩|⟨hnk,k1⟩
          · rw[renO_foot,e1 p hp j hpj]at hb
            rw[renO_foot,e1 q hq k hqk]
            refine r2 p hp q hq (fun e=>hne ?_) aj ak b (by rw[gA hpj];exact haj) (by rw[gA hqk];exact hak) hb
            rw[e,hqk]at hpj
            exact(Option.some.inj hpj).symm
          · rw[e2 k hnk]
            refine s.sep i k _ ok ai ak b (fun e=>?_) hi k1 hai hak rfl hF
            subst e
            exact hnk p0 hp0 hp0i
        · rw[e2 j hnj]at hb
          rcases key hok with⟨q,hq,hqk,rfl⟩|⟨hnk,k1⟩
          · intro hb2
            have hF:=foot q hq k ak b hqk hak hb2
            refine s.sep j i oj _ aj ai b (fun e=>?_) h1 hi haj hai hr hb hF
            subst e
            exact hnj p0 hp0 hp0i
          · rw[e2 k hnk]
            exact s.sep j k oj ok aj ak b hne h1 k1 haj hak hr hb}
theorem entUnpack{n:Nat}{T:Tm}{H:SHeap}{D:List SV}(σ:List Nat)(ps:List (Nat×SObj))(i:Nat)(hi:H[i]?=some (some (.pack σ (packR ps))))(hj:injP σ ps=true)(hil:(lookP σ ps i).isSome=true)(hd:DeadP H σ i ps):
  Ent n ⟨T,H,D⟩ ⟨T,unH (sel σ H.length) σ ps 0 H,D⟩:=by
 intro η φ w0 Ef w a hn hs hT hD;obtain⟨φ',s'⟩:=hs.unpack hi hj hil hd;exact⟨η,φ',fun _ _=>rfl,by rw[unH_length];exact hn,s',hT,hD⟩
end Go.Sy
/-
 Contracts of the small functions of the serve package. (--fast)
-/
namespace Go.Proofs.YthnhlkflkidemaaGreatDoor
open Go Go.Sy
set_option maxRecDepth 100000
set_option maxHeartbeats 4000000
attribute [local irreducible] CallP CodeP Ent YieldP
/-! ### What settles duties -/
theorem fp{P:Prop}(h:P:=by first|exact tU|exact rfl|exact fun _ _=>rfl|exact fun _ _ _ _=>rfl|exact Or.inl rfl|exact Or.inr rfl):P:=h
theorem fPp{P:Prop}(h:P:=by repeat' first|exact fp|refine aN ?_ ?_):P:=h
theorem tm{P:Prop}(h:P:=by first|exact tU|exact rfl|exact congrArg (SV.int .i64) (Int.natCast_succ _).symm|exact congrArg (SV.int .u64) (Int.natCast_succ _).symm):P:=h
theorem tMm{P:Prop}(h:P:=by repeat' first|exact tm|refine aN ?_ ?_):P:=h
theorem unS{P:Prop}{b:Bool}(h:P):b=true→P:=fun _=>h
theorem lt64{k:Int}(h:k<64):k<((IntKind.bits .i64:Nat):Int):=h
theorem om{P:Prop}(h:P:=by first|omega|exact u0 (by omega)|exact u1 (by omega)|exact u1 ⟨by omega,by omega⟩|exact unS (by omega)|exact fun hh=>hh|exact fun hh=>absurd hh (by decide)|exact fun hh=>congrArg not hh|exact fun hh=>tFx hh|exact fun hh=>fTx hh):P:=h
theorem g1{c:Bool} :under none (c=true→(some (gB none (wB true c))).getD true=true):=fun h=>h
theorem g1f{c:Bool} :under none (c=false→(some (gB none (wB false c))).getD true=true):=fun h=>by subst h;rfl
theorem g2{g c:Bool} :under (some g) (c=true→(some (gB (some g) (wB true c))).getD true=true):=fun h1 h2=>by subst h1;subst h2;rfl
theorem g2f{g c:Bool} :under (some g) (c=false→(some (gB (some g) (wB false c))).getD true=true):=fun h1 h2=>by subst h1;subst h2;rfl
theorem gn{G:Option Bool}{P:Prop} :under G (P→(none:Option Bool).getD true=true):=by
 cases G with
 |none=>exact fun _=>rfl
 |some g=>exact fun _ _=>rfl
theorem aq{P:Prop}(h:P:=by first|with_reducible exact tU|((with_reducible show _=_);exact rfl)|((with_reducible show∀_,_=_);exact fun _=>rfl)|((with_reducible show under _ _);first|exact tU|exact rfl|exact fun _=>rfl)):P:=h
theorem dd{P:Prop}(h:P:=by first
 |((with_reducible show under _ _);first|exact g1|exact g1f|exact g2|exact g2f|exact gn|exact fun hh=>hh|exact u1 (lt64 (by omega))|exact u0 (lt64 (by omega))|exact u0 (by omega)|exact u1 (by omega)|exact u1 ⟨by omega,by omega⟩|exact u0 ⟨by omega,by omega⟩)
 |((with_reducible show _→_);first|exact fun hh=>hh|exact unS (by omega)|exact fun hh=>congrArg not hh)
 |((with_reducible show(_:Int)≤_);omega)
 |((with_reducible show(_:Int)<_);omega)
 |((with_reducible show(_:Nat)≤_);omega)
 |((with_reducible show(_:Nat)<_);omega)
 |((with_reducible show Nat.lt _ _);omega)
 |((with_reducible show Nat.le _ _);omega)
 |((with_reducible show¬_);omega)
 |((with_reducible show _∧_);omega)
 |((with_reducible show _≠_);omega)):P:=h
/-! ### A serve -/
structure SD where
 t:TD
 n:Nat
 hut:Nat→Int
 fr:Nat→Int
 to:Nat→Int
 le:Nat→Int
 mo:Nat→Int
 slo:Int
 shi:Int
 pace:Int
 b:Bool
 cap:Nat
def SD.F(s:SD)(k:Nat):List SV:=[.int .i64 (s.hut k),.int .i64 (s.fr k),.int .i64 (s.to k),.int .i64 (s.le k),.int .i64 (s.mo k)]
def rowN(o:Nat→Nat)(k:Nat):List SV:=[.int .i64 (o k:Nat)]
def bcv(s:SD)(R:Nat→Nat)(i:Nat)(tv:SV):List SV:=[.osl s.t.bM 0 3 s.t.nM s.t.cM,.osl s.t.bS 1 2 s.t.nS s.t.cS,.osl s.t.bL 2 4 s.t.nL s.t.cL,.int .i64 s.slo,.int .i64 s.shi,.int .i64 s.pace,.osl s.b i 5 s.n s.cap,
 .int .i64 (R 0:Nat),.int .i64 (R 1:Nat),.int .i64 (R 2:Nat),.int .i64 (R 3:Nat),.int .i64 (R 4:Nat),tv]
def HB(s:SD)(R o:Nat→Nat)(bo:Bool)(co:Nat):SHeap:=
 [some .dead,some .dead,some .dead,some (.roa 5 s.n s.F),some (.roc (bcv s R 3 (.osl bo 5 1 s.n co))),some (.roa 1 s.n (rowN o))]
theorem t64(n lo hi:Int):CallP Tryz.prog 64 [.int .i64 n,.int .i64 lo,.int .i64 hi] [] (Ret (.bool (inB n lo hi)) []):=by
 refine callR (E:=E) E_ok Tryz.func64 rfl ?_;refine aN ?_ ?_
 ·exact sA
 refine ent_tau [] ⟨trivial,⟨rfl,congrArg SV.bool ?_,trivial⟩,rfl⟩;unfold inB;cases decide (lo≤n)<;>rfl
theorem t84_true(e:Int):CallP Tryz.prog 84 [.bool true,.int .i64 e] [] (Ret (.tup []) []):=by
 refine callR (E:=E) E_ok Tryz.func84 rfl ?_;refine And.intro ?_ (And.intro (fun h=>?_) (fun h=>?_))
 ·exact sA
 ·simp at h
 ·refine aN ?_ ?_
  ·exact sA
  ·exact ent_of [] trivial ⟨rfl,rfl,trivial⟩ rfl rfl rfl
theorem t84_false(e:Int):CallP Tryz.prog 84 [.bool false,.int .i64 e] [] (Pan (.iface 196 (.int .i64 e)) []):=by
 refine callK (E:=E) E_ok Tryz.func84 rfl ?_;refine And.intro ?_ (And.intro (fun h=>?_) (fun h=>?_))
 ·exact sA
 ·refine And.intro ?_ ⟨.panic (.iface 196 (.int .i64 e)),[],⟨rfl,rfl⟩,?_⟩
  ·exact sA
  ·exact ent_of [] trivial ⟨rfl,rfl,trivial⟩ rfl rfl rfl
 ·simp at h
theorem mustS{b:Bool}{e:Int}{H:SHeap}{K:CE→SHeap→Prop}(h1:b=true→fcH H fun H=>K (.ret (.tup [])) H)(h2:b=false→fcH H fun H=>K (.panic (.iface 196 (.int .i64 e))) H):
  CallP Tryz.prog 84 [.bool b,.int .i64 e] H K:=by
 cases b with
 |true=>
  refine CallP.frame (t84_true e) [] trivial (apartB_ok rfl) rfl ?_;rintro ce h' ⟨rfl,rfl⟩;have:=h1 rfl;rw[fcH_eq]at this;exact⟨ownB_ok rfl,by simpa[updH,putH,newH,renC,ren,renL]using this⟩
 |false=>
  refine CallP.frame (t84_false e) [] trivial (apartB_ok rfl) rfl ?_;rintro ce h' ⟨rfl,rfl⟩;have:=h2 rfl;rw[fcH_eq]at this;exact⟨ownB_ok rfl,by simpa[updH,putH,newH,renC,ren,renL]using this⟩
theorem t72:CallP Tryz.prog 72 [] [] (Ret (.bool true) []):=by
 refine callR (E:=E) E_ok Tryz.func72 rfl ?_;(repeat' first|exact aq|refine aN ?_ ?_|exact tU);exact ent_tau [] ⟨fPp,tMm,rfl⟩
theorem t148(S:Int):CallP Tryz.prog 148 [.ptr 0 0,.int .u64 S] [some .dead] (Ret (.fn (.func 198) [] [.ptr 1 0,.ptr 2 0]) [some .dead,some (.cells [.ptr 0 0]),some (.cells [.int .u64 S])]):=by
 refine callR (E:=E) E_ok Tryz.func148 rfl ?_;(repeat' first|exact aq|refine aN ?_ ?_|exact tU);exact ent_tau [0,1,2] ⟨fPp,tMm,rfl⟩
theorem t74:CallP Tryz.prog 74 [] [] (Ret (.agg [.int .i64 0,.int .i64 (-1),.int .i64 0,.int .i64 (-1),.int .i64 0,.int .i64 (-1),.int .i64 0,.int .i64 (-1)]) []):=by
 refine callR (E:=E) E_ok Tryz.func74 rfl ?_;(repeat' first|exact aq|refine aN ?_ ?_|exact tU);refine loopP E_ok [0] (fun i:Nat=>[(2,.int .i64 i)]) (fun i H=>match i with
  |0=>H
  |1=>[some (.cells [.int .i64 0,.int .i64 (-1),.int .i64 0,.int .i64 0,.int .i64 0,.int .i64 0,.int .i64 0,.int .i64 0])]
  |2=>[some (.cells [.int .i64 0,.int .i64 (-1),.int .i64 0,.int .i64 (-1),.int .i64 0,.int .i64 0,.int .i64 0,.int .i64 0])]
  |3=>[some (.cells [.int .i64 0,.int .i64 (-1),.int .i64 0,.int .i64 (-1),.int .i64 0,.int .i64 (-1),.int .i64 0,.int .i64 0])]
  |_=>[some (.cells [.int .i64 0,.int .i64 (-1),.int .i64 0,.int .i64 (-1),.int .i64 0,.int .i64 (-1),.int .i64 0,.int .i64 (-1)])]) (fun i=>i≤4) (fun i=>4-i) 0 (by omega) ?_ ?_
 ·exact ent_tau [0] ⟨fPp,tMm,rfl⟩
 intro i hi;match i,hi with
 |0,_=>
  all_goals(repeat' first|exact aq|refine aN ?_ ?_|exact tU)
  all_goals try exact dd
  all_goals intro h1
  all_goals first|exact absurd h1 (by decide)|(cases h1;done)|skip
  all_goals(repeat' first|exact aq|refine aN ?_ ?_|exact tU)
  all_goals try exact dd
  all_goals first|exact Nat.le_of_ble_eq_true rfl|skip
  refine⟨1,by omega,by omega,?_⟩;exact ent_tau [0] ⟨fPp,tMm,rfl⟩
 |1,_=>
  all_goals(repeat' first|exact aq|refine aN ?_ ?_|exact tU)
  all_goals try exact dd
  all_goals intro h1
  all_goals first|exact absurd h1 (by decide)|(cases h1;done)|skip
  all_goals(repeat' first|exact aq|refine aN ?_ ?_|exact tU)
  all_goals try exact dd
  all_goals first|exact Nat.le_of_ble_eq_true rfl|skip
  refine⟨2,by omega,by omega,?_⟩;exact ent_tau [0] ⟨fPp,tMm,rfl⟩
 |2,_=>
  all_goals(repeat' first|exact aq|refine aN ?_ ?_|exact tU)
  all_goals try exact dd
  all_goals intro h1
  all_goals first|exact absurd h1 (by decide)|(cases h1;done)|skip
  all_goals(repeat' first|exact aq|refine aN ?_ ?_|exact tU)
  all_goals try exact dd
  all_goals first|exact Nat.le_of_ble_eq_true rfl|skip
  refine⟨3,by omega,by omega,?_⟩;exact ent_tau [0] ⟨fPp,tMm,rfl⟩
 |3,_=>
  all_goals(repeat' first|exact aq|refine aN ?_ ?_|exact tU)
  all_goals try exact dd
  all_goals intro h1
  all_goals first|exact absurd h1 (by decide)|(cases h1;done)|skip
  all_goals(repeat' first|exact aq|refine aN ?_ ?_|exact tU)
  all_goals try exact dd
  all_goals first|exact Nat.le_of_ble_eq_true rfl|skip
  refine⟨4,by omega,by omega,?_⟩;exact ent_tau [0] ⟨fPp,tMm,rfl⟩
 |4,_=>
  all_goals(repeat' first|exact aq|refine aN ?_ ?_|exact tU)
  all_goals try exact dd
  all_goals intro h1
  all_goals first|exact absurd h1 (by decide)|(cases h1;done)|skip
  all_goals(repeat' first|exact aq|refine aN ?_ ?_|exact tU)
  all_goals try exact dd
  all_goals first|exact Nat.le_of_ble_eq_true rfl|skip
  exact ent_tau [] ⟨fPp,tMm,rfl⟩
set_option maxHeartbeats 800000
theorem must{b:Bool}{e:Int}{H:SHeap}{K:CE→SHeap→Prop}(h1:b=true→fcH H fun H=>K (.ret (.tup [])) H)(h2:b=false→fcH H fun H=>K (.panic (.iface 224 (.agg [.int .i64 e]))) H):
  CallP Tryz.prog 158 [.bool b,.int .i64 e] H K:=by
 cases b with
 |true=>
  refine CallP.frame (u65_true e) [] trivial (apartB_ok rfl) rfl ?_;rintro ce h' ⟨rfl,rfl⟩;have:=h1 rfl;rw[fcH_eq]at this;exact⟨ownB_ok rfl,by simpa[updH,putH,newH,renC,ren,renL]using this⟩
 |false=>
  refine CallP.frame (u65_false e) [] trivial (apartB_ok rfl) rfl ?_;rintro ce h' ⟨rfl,rfl⟩;have:=h2 rfl;rw[fcH_eq]at this;exact⟨ownB_ok rfl,by simpa[updH,putH,newH,renC,ren,renL]using this⟩
theorem u95(lo hi:Int):CallP Tryz.prog 160 [.agg [.int .i64 lo,.int .i64 hi]] [] (Ret (.bool (hiB lo hi&&decide (hi-lo≤2))) []):=by
 refine callR (E:=E) E_ok Tryz.func160 rfl ?_;refine aN ?_ ?_
 ·exact sA
 refine(u96 lo hi).use [] ?_ (qZ0) rfl;refine aN ?_ ?_
 ·simp[AllP,under,gB,wB,inR_iff,hiB];omega
 refine ent_tau [] ⟨qZ0,⟨rfl,?_,trivial⟩,rfl⟩;refine congrArg SV.bool ?_;cases hiB lo hi<;>rfl
def K44(t:TD)(b:Bool)(base:SHeap)(i j:Nat):CE→SHeap→Prop:=fun ce h'=>
 (t.Valid∧b=true∧ce= .ret (.ptr i 0)∧h'=base++[some (.cells [.osl t.bM 0 3 t.nM t.cM,.osl t.bS 1 2 t.nS t.cS,.osl t.bL 2 4 t.nL t.cL,.map j]),some (.memo 5 t.F [])])∨
 (¬t.Valid∧ce= .panic (.iface 224 (.agg [.int .i64 1]))∧h'=base)∨(t.Valid∧b=false∧ce= .panic (.iface 224 (.agg [.int .i64 2]))∧h'=base)
noncomputable def B44_1(t:TD)(c0:Int):SHeap:=[some (.roa 3 t.nM (row3 t.mi t.mlo t.mhi)),some (.roa 2 t.nS (row2 t.slo t.shi)),some (.roa 4 t.nL (row4 t.lp t.lm t.llo t.lhi)),some (.roc [.int .i64 c0])]
theorem u44_1(t:TD)(c0:Int)(f:Nat)(hf:f=188∨f=99∨f=188)(b:Bool)
  (his:t.Valid→CallP Tryz.prog f [.ptr 0 0,.ptr 5 0] (t.shore++[some (.roc [.int .i64 c0])]) (Ret (.bool b) (t.shore++[some (.roc [.int .i64 c0])]))):
  CallP Tryz.prog 98 [t.A,.fn (.func f) [] [.ptr 3 0]] (B44_1 t c0) (K44 t b (B44_1 t c0) 4 5):=by
 refine callK (E:=E) E_ok Tryz.func98 rfl ?_
 refine aN ?_ ?_
 ·exact sA
 refine(u90 _ _ _).use [] ?_ (qZ0) rfl
 refine aN ?_ ?_
 ·exact sA
 refine And.intro (fun h1=>?_) (fun h1=>?_)
 ·refine(u90 _ _ _).use [] ?_ (qZ0) rfl
  refine aN ?_ ?_
  ·exact sA
  refine must (fun hb=>?_) (fun hb=>?_)
  ·-- the lists are as long as they may be
   have hb':(2≤t.nM∧t.nM≤4)∧(1≤t.nS∧t.nS≤4)∧t.nL≤6:=by
    simp[inB,gB,wB]at hb h1
    omega
   obtain⟨hM,hS,hL⟩:=hb'
   refine aN ?_ ?_
   ·exact sA
   refine loopP E_ok [0,1,2,5,31,32] (fun i:Nat=>[(33,.int .i64 i)]) (fun _ H=>H) (fun i=>i≤t.nM∧ ∀j,j<i→t.markOk j) (fun i=>t.nM-i) 0 ⟨Nat.zero_le _,fun j h=>by omega⟩ ?_ ?_
   ·exact ent_tau [0,1,2,3,4] ⟨qZ0,qZ1,rfl⟩
   ·rintro i ⟨hi,hall⟩
    refine And.intro ?_ (And.intro (fun hlt=>?_) (fun hlt=>?_))
    ·exact sA
    ·have hlt':i<t.nM:=by simpa using hlt
     have ei:(0+(i:Int).toNat)=i:=by omega
     have ei':(0+((i:Int)-1).toNat)=i-1:=by omega
     refine aN ?_ ?_
     ·simp[AllP,under,gB,wB,inR_iff,IntKind.bits]
      omega
     rw[ei]
     refine drawQ E_ok [4,5] pl98_6 (by kernel_rfl) ?_
     refine And.intro (And.intro ?_ ?_) trivial
     ·exact sA
     refine(u90 _ _ _).use [] ?_ (qZ0) rfl
     refine And.intro (And.intro ?_ (And.intro (fun h2=>?_) (fun h2=>?_))) trivial
     ·exact sA
     ·refine(u95 _ _).use [] ?_ (qZ0) rfl
      refine And.intro (And.intro ?_ ?_) trivial
      ·have hp:=fun h=>hall (i-1) h
       simp only[TD.markOk]at hp
       simp[inB,gB,wB]at h2
       simp[AllP,under,gB,wB,inR_iff,IntKind.bits,ei',inB,hiB]
       omega
      ·refine must (fun hb=>?_) (fun hb=>?_)
       ·refine aN ?_ ?_
        ·exact sA
        refine aN ?_ ?_
        ·exact rfl
        refine And.intro ?_ ⟨i+1,⟨hlt',fun j hj=>?_⟩,by omega,?_⟩
        ·simp[AllP,under,gB,wB,inR_iff,IntKind.bits]
         omega
        ·rcases Nat.lt_or_ge j i with hji|hji
         ·exact hall j hji
         ·have:j=i:=by omega
          subst this
          rw[ei']at hb
          simp[inB,hiB,gB,wB]at h2 hb
          simp only[TD.markOk]
          omega
        ·exact ent_tau [0,1,2,3,4] ⟨qZ0,qZ1,rfl⟩
       ·refine aN ?_ ?_
        ·exact sA
        refine aN ?_ ?_
        ·exact rfl
        refine And.intro trivial ?_
        refine And.intro ?_ ⟨_,_,.inr (.inl ⟨fun hv=>?_,rfl,rfl⟩),?_⟩
        ·exact sA
        ·have hm:=hv.2.2.2.1 i hlt'
         simp only[TD.markOk]at hm
         rw[ei']at hb
         simp[inB,hiB,gB,wB]at h2 hb
         omega
        ·exact ent_tau [0,1,2,3] ⟨qZ0,qZ1,rfl⟩
     ·refine And.intro (And.intro ?_ ?_) trivial
      ·simp[AllP,under,gB,wB,inR_iff,IntKind.bits]
       simpa[gB,wB]using h2
      ·have h2':inB (t.mi i) 0 240=false:=by simpa[gB,wB]using h2
       refine must (fun hb=>?_) (fun hb=>?_)
       ·simp[h2']at hb
       ·refine aN ?_ ?_
        ·exact sA
        refine aN ?_ ?_
        ·exact rfl
        refine And.intro trivial ?_
        refine And.intro ?_ ⟨_,_,.inr (.inl ⟨fun hv=>?_,rfl,rfl⟩),?_⟩
        ·exact sA
        ·have hm:=hv.2.2.2.1 i hlt'
         simp only[TD.markOk]at hm
         simp[inB,gB,wB]at h2
         omega
        ·exact ent_tau [0,1,2,3] ⟨qZ0,qZ1,rfl⟩
    ·have hiM:i=t.nM:=by
      have: ¬(i<t.nM):=by simpa using hlt
      omega
     subst hiM
     refine aN ?_ ?_
     ·exact sA
     refine And.intro trivial ?_
     refine⟨t.F,?_⟩
     refine aN ?_ ?_
     ·exact sA
     refine loopP E_ok [0,1,2,5,8,71,72] (fun i:Nat=>[(73,.int .i64 i)]) (fun _ H=>H) (fun i=>i≤t.nS∧ ∀j,j<i→t.sandOk j) (fun i=>t.nS-i) 0 ⟨Nat.zero_le _,fun j h=>by omega⟩ ?_ ?_
     ·exact ent_tau [0,1,2,3,4,5,6] ⟨qZ0,qZ1,rfl⟩
     ·rintro i ⟨hi,hsand⟩
      refine And.intro ?_ (And.intro (fun hlt2=>?_) (fun hlt2=>?_))
      ·exact sA
      ·have hlt':i<t.nS:=by simpa using hlt2
       have ei:(0+(i:Int).toNat)=i:=by omega
       refine aN ?_ ?_
       ·simp[AllP,under,gB,wB,inR_iff,IntKind.bits]
        omega
       rw[ei]
       refine(u95 _ _).use [] ?_ (qZ0) rfl
       refine aN ?_ ?_
       ·exact sA
       refine must (fun hb=>?_) (fun hb=>?_)
       ·refine And.intro ?_ ⟨i+1,⟨hlt',fun j hj=>?_⟩,by omega,?_⟩
        ·simp[AllP,under,gB,wB,inR_iff,IntKind.bits]
         omega
        ·rcases Nat.lt_or_ge j i with hji|hji
         ·exact hsand j hji
         ·have:j=i:=by omega
          subst this
          simp[hiB]at hb
          simp only[TD.sandOk]
          omega
        ·exact ent_tau [0,1,2,3,4,5,6] ⟨qZ0,qZ1,rfl⟩
       ·refine aN ?_ ?_
        ·exact sA
        refine And.intro ?_ ⟨_,_,.inr (.inl ⟨fun hv=>?_,rfl,rfl⟩),?_⟩
        ·exact sA
        ·have hm:=hv.2.2.2.2.1 i hlt'
         simp only[TD.sandOk]at hm
         simp[hiB]at hb
         omega
        ·exact ent_tau [0,1,2,3] ⟨qZ0,qZ1,rfl⟩
      ·have hiS:i=t.nS:=by
        have: ¬(i<t.nS):=by simpa using hlt2
        omega
       subst hiS
       refine aN ?_ ?_
       ·exact sA
       refine And.intro trivial ?_
       refine loopP E_ok [0,1,8,83,84] (fun i:Nat=>[(85,.int .i64 i)]) (fun _ H=>H) (fun i=>i≤t.nL∧ ∀j,j<i→t.lookOk j) (fun i=>t.nL-i) 0 ⟨Nat.zero_le _,fun j h=>by omega⟩ ?_ ?_
       ·exact ent_tau [0,1,2,3,4,5,6] ⟨qZ0,qZ1,rfl⟩
       ·rintro i ⟨hi,hlook⟩
        refine And.intro ?_ (And.intro (fun hlt3=>?_) (fun hlt3=>?_))
        ·exact sA
        ·have hlt':i<t.nL:=by simpa using hlt3
         have ei:(0+(i:Int).toNat)=i:=by omega
         refine aN ?_ ?_
         ·simp[AllP,under,gB,wB,inR_iff,IntKind.bits]
          omega
         rw[ei]
         refine(u46 t (by omega) (t.lp i)).use [6,0,1,2,5] ?_ (qZ0) rfl
         refine And.intro ?_ (And.intro (fun h6=>?_) (fun h6=>?_))
         ·exact sA
         ·have h6':inB (t.lp i) 0 (t.nS-1)=true:=by simpa[gB,wB]using h6
          refine(u57 t (by omega) (by omega) (t.lm i)).use [6,0,1,2,5] ?_ (qZ0) rfl
          refine And.intro ?_ (And.intro (fun h7=>?_) (fun h7=>?_))
          ·exact sA
          ·have h7':inB (t.lm i) (t.mi 0) (t.mi (t.nM-1))=true:=by simpa[gB,wB,h6']using h7
           refine(u96 _ _).use [] ?_ (qZ0) rfl
           refine aN ?_ ?_
           ·exact sA
           refine must (fun hb=>?_) (fun hb=>?_)
           ·refine And.intro ?_ ⟨i+1,⟨hlt',fun j hj=>?_⟩,by omega,?_⟩
            ·simp[AllP,under,gB,wB,inR_iff,IntKind.bits]
             omega
            ·rcases Nat.lt_or_ge j i with hji|hji
             ·exact hlook j hji
             ·have:j=i:=by omega
              subst this
              simp[inB,hiB,gB,wB]at hb h6' h7'
              simp only[TD.lookOk]
              omega
            ·exact ent_tau [0,1,2,3,4,5,6] ⟨qZ0,qZ1,rfl⟩
           ·refine aN ?_ ?_
            ·exact sA
            refine And.intro ?_ ⟨_,_,.inr (.inl ⟨fun hv=>?_,rfl,rfl⟩),?_⟩
            ·exact sA
            ·have hm:=hv.2.2.2.2.2 i hlt'
             simp only[TD.lookOk]at hm
             simp[inB,hiB,gB,wB,h6',h7']at hb h6' h7'
             omega
            ·exact ent_tau [0,1,2,3] ⟨qZ0,qZ1,rfl⟩
          ·have h7':inB (t.lm i) (t.mi 0) (t.mi (t.nM-1))=false:=by simpa[gB,wB,h6']using h7
           refine aN ?_ ?_
           ·simp[AllP,under,gB,wB,inR_iff,IntKind.bits]
            simp[h6',h7']
           refine must (fun hb=>?_) (fun hb=>?_)
           ·simp[h6',h7']at hb
           ·refine aN ?_ ?_
            ·exact sA
            refine And.intro ?_ ⟨_,_,.inr (.inl ⟨fun hv=>?_,rfl,rfl⟩),?_⟩
            ·exact sA
            ·have hm:=hv.2.2.2.2.2 i hlt'
             simp only[TD.lookOk]at hm
             simp[inB,hiB,gB,wB]at h6' h7'
             omega
            ·exact ent_tau [0,1,2,3] ⟨qZ0,qZ1,rfl⟩
         ·have h6':inB (t.lp i) 0 (t.nS-1)=false:=by simpa[gB,wB]using h6
          refine And.intro ?_ (And.intro (fun h7=>?_) (fun h7=>?_))
          ·simp[AllP,under,gB,wB,inR_iff,IntKind.bits]
           exact h6'
          ·simp[gB,wB,h6']at h7
          ·refine aN ?_ ?_
           ·exact sA
           refine must (fun hb=>?_) (fun hb=>?_)
           ·simp[h6']at hb
           ·refine aN ?_ ?_
            ·exact sA
            refine And.intro ?_ ⟨_,_,.inr (.inl ⟨fun hv=>?_,rfl,rfl⟩),?_⟩
            ·exact sA
            ·have hm:=hv.2.2.2.2.2 i hlt'
             simp only[TD.lookOk]at hm
             simp[inB,hiB,gB,wB]at h6'
             omega
            ·exact ent_tau [0,1,2,3] ⟨qZ0,qZ1,rfl⟩
        ·have hiL:i=t.nL:=by
          have: ¬(i<t.nL):=by simpa using hlt3
          omega
         subst hiL
         have hv:t.Valid:=⟨hM,hS,hL,hall,hsand,hlook⟩
         refine aN ?_ ?_
         ·exact sA
         rcases hf with rfl|rfl|rfl
         ·refine aN ?_ ?_
          ·exact sA
          refine(his hv).use [6,0,1,2,5,3] ?_ (qZ0) rfl
          refine aN ?_ ?_
          ·exact sA
          refine must (fun hb=>?_) (fun hb=>?_)
          ·refine And.intro ?_ ⟨_,_,.inl ⟨hv,hb,rfl,rfl⟩,?_⟩
           ·exact sA
           exact ent_tau [0,1,2,3,6,5] ⟨qZ0,qZ1,rfl⟩
          ·refine And.intro ?_ ⟨_,_,.inr (.inr ⟨hv,hb,rfl,rfl⟩),?_⟩
           ·exact sA
           exact ent_tau [0,1,2,3] ⟨qZ0,qZ1,rfl⟩
         ·refine aN ?_ ?_
          ·exact sA
          refine(his hv).use [6,0,1,2,5,3] ?_ (qZ0) rfl
          refine aN ?_ ?_
          ·exact sA
          refine must (fun hb=>?_) (fun hb=>?_)
          ·refine And.intro ?_ ⟨_,_,.inl ⟨hv,hb,rfl,rfl⟩,?_⟩
           ·exact sA
           exact ent_tau [0,1,2,3,6,5] ⟨qZ0,qZ1,rfl⟩
          ·refine And.intro ?_ ⟨_,_,.inr (.inr ⟨hv,hb,rfl,rfl⟩),?_⟩
           ·exact sA
           exact ent_tau [0,1,2,3] ⟨qZ0,qZ1,rfl⟩
         ·refine aN ?_ ?_
          ·exact sA
          refine(his hv).use [6,0,1,2,5,3] ?_ (qZ0) rfl
          refine aN ?_ ?_
          ·exact sA
          refine must (fun hb=>?_) (fun hb=>?_)
          ·refine And.intro ?_ ⟨_,_,.inl ⟨hv,hb,rfl,rfl⟩,?_⟩
           ·exact sA
           exact ent_tau [0,1,2,3,6,5] ⟨qZ0,qZ1,rfl⟩
          ·refine And.intro ?_ ⟨_,_,.inr (.inr ⟨hv,hb,rfl,rfl⟩),?_⟩
           ·exact sA
           exact ent_tau [0,1,2,3] ⟨qZ0,qZ1,rfl⟩
  ·refine And.intro ?_ ⟨_,_,.inr (.inl ⟨fun hv=>?_,rfl,rfl⟩),?_⟩
   ·exact sA
   ·have h3:=hv.1
    have h4:=hv.2.1
    have h5:=hv.2.2.1
    simp[inB,gB,wB]at hb h1
    omega
   ·exact ent_tau [0,1,2,3] ⟨qZ0,qZ1,rfl⟩
 ·have h1':inB (t.nM:Int) 2 4=false:=by simpa[gB,wB]using h1
  refine aN ?_ ?_
  ·simp[AllP,under,gB,wB,inR_iff,IntKind.bits]
   exact h1'
  refine must (fun hb=>?_) (fun hb=>?_)
  ·simp[h1']at hb
  ·refine And.intro ?_ ⟨_,_,.inr (.inl ⟨fun hv=>?_,rfl,rfl⟩),?_⟩
   ·exact sA
   ·have h3:=hv.1
    simp[inB,gB,wB]at h1
    omega
   ·exact ent_tau [0,1,2,3] ⟨qZ0,qZ1,rfl⟩
end Go.Proofs.YthnhlkflkidemaaGreatDoor
