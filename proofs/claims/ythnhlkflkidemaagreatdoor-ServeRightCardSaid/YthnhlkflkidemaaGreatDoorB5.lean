/-
  Parts: Sy3, Sy4.
-/
import Derived.Test.YthnhlkflkidemaaGreatDoorB4
set_option linter.unusedVariables false
set_option linter.unusedSimpArgs false
/-
 Sy3: indexes, slices, interface values, new blocks and stores on symbolic values. No program is named.
-/
namespace Go.Sy
theorem evIndexAddr_ok{E:Env}{P:Program}(hE:E.ok P){t:Nat}{x ix:SV}{r:Res}(h:evIndexAddr E t x ix=some r)(ho: ∀p∈r.ob,p){η:Nam}{a b:Value}(ha:den η x=some a)(hb:den η ix=some b)(w:World):
  (r.wr=none∧r.nw=none)∧ ∃v,den η r.v=some v∧(Instr.indexAt t a b).run P w= .ok v w:=by
 unfold evIndexAddr at h;split at h
 ·rename_i ti k n ht;simp only[den,Option.some.injEq]at hb;subst hb;have hu:=(hE.ty _ _ ht).underlying (w:=w);split at h
  ·rename_i e hd;rw[hd]at hu;split at h
   ·rename_i te hte;have hsz:=(hE.ty _ _ hte).sizeOf (w:=w);split at h
    ·rename_i i sz eo len cap;split at h
     ·rename_i hs;subst hs;simp only[pureR,Option.some.injEq]at h;subst h;have h1:0≤n:=ho _ (by simp);have h2:n<(len:Int):=ho _ (by simp);simp only[den,Option.map_eq_some_iff]at ha;obtain⟨c,hc,rfl⟩:=ha;refine⟨⟨rfl,rfl⟩,.pointer (some ⟨c.1,c.2+((eo+n.toNat)*te.size+0),none⟩),by simp[den,hc],?_⟩;simp[Instr.indexAt,asIntOf,hu,h1,h2,hsz,addr_add,Nat.add_mul,Nat.add_assoc]
     ·cases h
    ·rename_i i o al l len;split at h
     ·rename_i hs;simp only[pureR,Option.some.injEq]at h;subst h;have h1:0≤n:=ho _ (by simp);have h2:n<(len:Int):=ho _ (by simp);simp only[den,Option.map_eq_some_iff]at ha;obtain⟨c,hc,rfl⟩:=ha;refine⟨⟨rfl,rfl⟩,.pointer (some ⟨c.1,c.2+(o+(l+n.toNat)),none⟩),by simp[den,hc],?_⟩;simp[Instr.indexAt,asIntOf,hu,h1,h2,hsz,hs,addr_add,Nat.add_assoc]
     ·cases h
    ·rename_i bb i sz len cap;split at h
     ·rename_i hs;subst hs;simp only[pureR,Option.some.injEq]at h;subst h;have h1:0≤n:=ho _ (by simp);have h2:n<(len:Int):=ho _ (by simp);cases bb with
      |true=>
       simp only[den,Option.map_eq_some_iff]at ha;obtain⟨c,hc,rfl⟩:=ha;refine⟨⟨rfl,rfl⟩,.pointer (some ⟨c.1,c.2+((0+n.toNat)*te.size+0),none⟩),by simp[den,hc],?_⟩;simp[Instr.indexAt,asIntOf,hu,h1,h2,hsz,addr_add]
      |false=>
       simp only[den]at ha;split at ha
       ·rename_i hz;omega
       ·cases ha
     ·cases h
    ·rename_i j k len cap;split at h
     ·rename_i hs;simp only[pureR,Option.some.injEq]at h;subst h;have h1:0≤n:=ho _ (by simp);have h2:n<(len:Int):=ho _ (by simp);simp only[den,Option.bind_eq_some_iff]at ha;obtain⟨c,hc,ha⟩:=ha;unfold rowV at ha;split at ha
      ·split at ha
       ·omega
       ·cases ha
      ·rename_i b hb;cases ha;refine⟨⟨rfl,rfl⟩,.pointer (some ⟨b,0+n.toNat,none⟩),by simp[den,hc,hb],?_⟩;simp[Instr.indexAt,asIntOf,hu,h1,h2,hsz,hs,addr_add]
     ·cases h
    ·simp only[pureR,Option.some.injEq]at h;subst h;exact(ho False (by simp)).elim
    ·cases h
   ·cases h
  ·rename_i len e hd;rw[hd]at hu;split at h
   ·rename_i te i o hte;have hsz:=(hE.ty _ _ hte).sizeOf (w:=w);split at h
    ·rename_i hs;simp only[pureR,Option.some.injEq]at h;subst h;have h1:0≤n:=ho _ (by simp);have h2:n<(len:Int):=ho _ (by simp);simp only[den,Option.map_eq_some_iff]at ha;obtain⟨c,hc,rfl⟩:=ha;refine⟨⟨rfl,rfl⟩,.pointer (some ⟨c.1,c.2+(o+n.toNat),none⟩),by simp[den,hc],?_⟩;simp[Instr.indexAt,asIntOf,hu,Instr.sureAddr,h1,h2,hsz,hs,addr_add,Nat.add_assoc]
    ·simp only[pureR,Option.some.injEq]at h;subst h;have h1:0≤n:=ho _ (by simp);have h2:n<(len:Int):=ho _ (by simp);simp only[den,Option.map_eq_some_iff]at ha;obtain⟨c,hc,rfl⟩:=ha;refine⟨⟨rfl,rfl⟩,.pointer (some ⟨c.1,c.2+(n.toNat*te.size+o),none⟩),by simp[den,hc],?_⟩;have e:c.2+o+n.toNat*te.size=c.2+(n.toNat*te.size+o):=by omega
     simp[Instr.indexAt,asIntOf,hu,Instr.sureAddr,h1,h2,hsz,addr_add,e]
   ·cases h
  ·cases h
 ·cases h
def evIndex(E:Env)(t:Nat)(x ix:SV):Option Res:=
 match E.ty t,x,ix with
 |some ti,.agg cs,.int _ n=>match ti.desc with
  | .array len e=>match E.ty e with
   |some te=>if aggB te.desc then none else if te.size=1 then match intsOf cs with
     |some (kd,ns)=>if ns.length=len then pureR (.int kd (ns.getD n.toNat 0)) [0≤n,n<(len:Int)]else none
     |none=>none
    else none
   |none=>none
  |_=>none
 |_,_,_=>none
theorem evIndex_ok{E:Env}{P:Program}(hE:E.ok P){t:Nat}{x ix:SV}{r:Res}(h:evIndex E t x ix=some r)(ho: ∀p∈r.ob,p){η:Nam}{a b:Value}(ha:den η x=some a)(hb:den η ix=some b)(w:World):
  (r.wr=none∧r.nw=none)∧ ∃v,den η r.v=some v∧(Instr.index t a b).run P w= .ok v w:=by
 unfold evIndex at h;split at h
 ·rename_i ti cs k n ht;simp only[den,Option.some.injEq]at hb;subst hb;have hu:=(hE.ty _ _ ht).underlying (w:=w);split at h
  ·rename_i len e hd;rw[hd]at hu;split at h
   ·rename_i te hte;have hsz:=(hE.ty _ _ hte).sizeOf (w:=w);have hag:=(hE.ty _ _ hte).isAgg (w:=w);split at h
    ·cases h
    ·rename_i hna;split at h
     ·rename_i hs1;split at h
      ·rename_i kd ns hns;split at h
       ·rename_i hlen;simp only[pureR,Option.some.injEq]at h;subst h;have h1:0≤n:=ho _ (by simp);have h2:n<(len:Int):=ho _ (by simp);simp only[den,Option.map_eq_some_iff]at ha;obtain⟨vs,hd',rfl⟩:=ha;rw[intsOf_ok hns,denL_ints]at hd';cases hd';have hna:aggB te.desc=false:=by simpa using hna
        refine⟨⟨rfl,rfl⟩,.int kd (ns.getD n.toNat 0),rfl,?_⟩;have hlt:n.toNat<ns.length:=by omega
        simp[Instr.index,asIntOf,hu,h1,h2,hsz,hs1,part,hag,hna,List.getElem?_eq_getElem hlt]
       ·cases h
      ·cases h
     ·cases h
   ·cases h
  ·cases h
 ·cases h
def evSlice(E:Env)(t:Nat)(x:SV)(lo hi mx:Option SV):Option Res:=
 match E.ty t,mx with
 |some ti,none=>match ti.desc,x with
  | .slice e,.slice i sz eo len cap=>match E.ty e with
   |some te=>if sz=te.size then match lo,hi with
     |none,none=>pureR (.slice i sz eo len cap) [(len:Int)≤cap]
     |none,some (.int _ n)=>pureR (.slice i sz eo n.toNat cap) [0≤n,n≤(cap:Int)]
     |some (.int _ m),none=>pureR (.slice i sz (eo+m.toNat) (len-m.toNat) (cap-m.toNat)) [0≤m,m≤(len:Int),m<(cap:Int)]
     |some (.int _ m),some (.int _ n)=>pureR (.slice i sz (eo+m.toNat) (n.toNat-m.toNat) (cap-m.toNat)) [0≤m,m≤n,n≤(cap:Int),m<(cap:Int)]
     |_,_=>none
    else none
   |none=>none
  | .slice e,.osl b i sz _ cap=>match E.ty e with
   |some te=>if sz=te.size then match lo,hi with
     |none,some (.int _ n)=>pureR (.osl b i sz n.toNat cap) [0≤n,n≤(cap:Int)]
     |_,_=>none
    else none
   |none=>none
  | .array len e,.ptr i o=>match E.ty e with
   |some te=>if te.size=1 then match lo,hi with
     |none,none=>pureR (.asl i o len 0 len)
     |none,some (.int _ n)=>pureR (.asl i o len 0 n.toNat) [0≤n,n≤(len:Int)]
     |_,_=>none
    else match o,lo,hi with
     |0,none,none=>pureR (.slice i te.size 0 len len)
     |0,none,some (.int _ n)=>pureR (.slice i te.size 0 n.toNat len) [0≤n,n≤(len:Int)]
     |_,_,_=>none
   |none=>none
  |_,_=>none
 |_,_=>none
theorem run_sliceBound{P:Program}{w:World}{k:IntKind}{n:Int}{y:Nat}{c:BoundsCode}(h1:0≤n)(h2:n≤(y:Int)):(Instr.sliceBound (.int k n) y c).run P w= .ok n.toNat w:=by
 simp[Instr.sliceBound,asIntOf,h1,h2]
theorem evSlice_ok{E:Env}{P:Program}(hE:E.ok P){t:Nat}{x:SV}{lo hi mx:Option SV}{r:Res}(h:evSlice E t x lo hi mx=some r)(ho: ∀p∈r.ob,p){η:Nam}{a:Value}(ha:den η x=some a)
  {lv hv mv:Option Value} (hl: ∀s,lo=some s→ ∃v,lv=some v∧den η s=some v) (hln:lo=none→lv=none) (hh: ∀s,hi=some s→ ∃v,hv=some v∧den η s=some v) (hhn:hi=none→hv=none)
  (hm:mx=none→mv=none) (w:World):
  (r.wr=none∧r.nw=none)∧ ∃v,den η r.v=some v∧(Instr.sliceAt t a lv hv mv).run P w= .ok v w:=by
 unfold evSlice at h
 split at h
 ·rename_i ti ht
  have hmn:=hm rfl;subst hmn
  have hu:=(hE.ty _ _ ht).underlying (w:=w)
  split at h
  ·rename_i e i sz eo len cap hd
   rw[hd]at hu
   split at h
   ·rename_i te hte
    have hsz:=(hE.ty _ _ hte).sizeOf (w:=w)
    split at h
    ·rename_i hs;subst hs
     simp only[den,Option.map_eq_some_iff]at ha
     obtain⟨c,hc,rfl⟩:=ha
     split at h
     ·simp only[pureR,Option.some.injEq]at h;subst h
      have:=hln rfl;subst this
      have:=hhn rfl;subst this
      refine⟨⟨rfl,rfl⟩,.slice (some ⟨c.1,c.2+eo*te.size,none⟩) len cap,by simp[den,hc],?_⟩
      simp[Instr.sliceAt,Instr.slice,hu,Instr.sliceBounds,hsz,addr_add]
     ·rename_i k n
      simp only[pureR,Option.some.injEq]at h;subst h
      have:=hln rfl;subst this
      obtain⟨_,rfl,hx⟩:=hh _ rfl
      simp only[den,Option.some.injEq]at hx;subst hx
      have h1:0≤n:=ho _ (by simp)
      have h2:n≤(cap:Int):=ho _ (by simp)
      refine⟨⟨rfl,rfl⟩,.slice (some ⟨c.1,c.2+eo*te.size,none⟩) n.toNat cap,by simp[den,hc],?_⟩
      simp[Instr.sliceAt,Instr.slice,hu,Instr.sliceBounds,hsz,addr_add,run_sliceBound h1 h2]
     ·rename_i k m
      simp only[pureR,Option.some.injEq]at h;subst h
      have:=hhn rfl;subst this
      obtain⟨_,rfl,hx⟩:=hl _ rfl
      simp only[den,Option.some.injEq]at hx;subst hx
      have h1:0≤m:=ho _ (by simp)
      have h2:m≤(len:Int):=ho _ (by simp)
      have h3:m<(cap:Int):=ho _ (by simp)
      have hne: ¬cap=m.toNat:=by omega
      refine⟨⟨rfl,rfl⟩,.slice (some ⟨c.1,c.2+(eo+m.toNat)*te.size,none⟩) (len-m.toNat) (cap-m.toNat),by simp[den,hc],?_⟩
      simp[Instr.sliceAt,Instr.slice,hu,Instr.sliceBounds,hsz,addr_add,run_sliceBound h1 h2,hne,Nat.add_mul,Nat.add_assoc]
     ·rename_i k m k' n
      simp only[pureR,Option.some.injEq]at h;subst h
      obtain⟨_,rfl,hx⟩:=hl _ rfl
      simp only[den,Option.some.injEq]at hx;subst hx
      obtain⟨_,rfl,hx⟩:=hh _ rfl
      simp only[den,Option.some.injEq]at hx;subst hx
      have h1:0≤m:=ho _ (by simp)
      have h2:m≤n:=ho _ (by simp)
      have h3:n≤(cap:Int):=ho _ (by simp)
      have h4:m<(cap:Int):=ho _ (by simp)
      have hne: ¬cap=m.toNat:=by omega
      have e1:=fun c=>run_sliceBound (P:=P) (w:=w) (k:=k') (c:=c) (show 0≤n by omega) h3
      have e2:=fun c=>run_sliceBound (P:=P) (w:=w) (k:=k) (c:=c) h1 (show m≤((n.toNat:Nat):Int)by omega)
      refine⟨⟨rfl,rfl⟩,.slice (some ⟨c.1,c.2+(eo+m.toNat)*te.size,none⟩) (n.toNat-m.toNat) (cap-m.toNat),by simp[den,hc],?_⟩
      simp[Instr.sliceAt,Instr.slice,hu,Instr.sliceBounds,hsz,addr_add,e1,e2,hne,Nat.add_mul,Nat.add_assoc]
     ·cases h
    ·cases h
   ·cases h
  ·rename_i e b i sz len cap hd
   rw[hd]at hu
   split at h
   ·rename_i te hte
    have hsz:=(hE.ty _ _ hte).sizeOf (w:=w)
    split at h
    ·rename_i hs;subst hs
     split at h
     ·rename_i k n
      simp only[pureR,Option.some.injEq]at h;subst h
      have:=hln rfl;subst this
      obtain⟨_,rfl,hx⟩:=hh _ rfl
      simp only[den,Option.some.injEq]at hx;subst hx
      have h1:0≤n:=ho _ (by simp)
      have h2:n≤(cap:Int):=ho _ (by simp)
      cases b with
      |true=>
       simp only[den,Option.map_eq_some_iff]at ha
       obtain⟨c,hc,rfl⟩:=ha
       refine⟨⟨rfl,rfl⟩,.slice (some ⟨c.1,c.2,none⟩) n.toNat cap,by simp[den,hc],?_⟩
       simp[Instr.sliceAt,Instr.slice,hu,Instr.sliceBounds,hsz,addr_add,run_sliceBound h1 h2]
      |false=>
       simp only[den]at ha
       split at ha
       ·rename_i hz
        simp only[Option.some.injEq]at ha
        subst ha
        obtain⟨rfl,rfl⟩:=hz
        have h0:n.toNat=0:=by omega
        refine⟨⟨rfl,rfl⟩,.slice none 0 0,by simp[den,h0],?_⟩
        simp[Instr.sliceAt,Instr.slice,hu,Instr.sliceBounds,hsz,run_sliceBound h1 h2,h0]
       ·cases ha
     ·cases h
    ·cases h
   ·cases h
  ·rename_i len e i o hd
   rw[hd]at hu
   split at h
   ·rename_i te hte
    have hsz:=(hE.ty _ _ hte).sizeOf (w:=w)
    split at h
    ·rename_i hs
     simp only[den,Option.map_eq_some_iff]at ha
     obtain⟨c,hc,rfl⟩:=ha
     split at h
     ·simp only[pureR,Option.some.injEq]at h;subst h
      have:=hln rfl;subst this
      have:=hhn rfl;subst this
      refine⟨⟨rfl,rfl⟩,.slice (some ⟨c.1,c.2+(o+0),none⟩) len (len-0),by simp[den,hc],?_⟩
      simp[Instr.sliceAt,hu,Instr.sureAddr,Instr.sliceBounds,hsz,addr_add]
     ·rename_i k n
      simp only[pureR,Option.some.injEq]at h;subst h
      have:=hln rfl;subst this
      obtain⟨_,rfl,hx⟩:=hh _ rfl
      simp only[den,Option.some.injEq]at hx;subst hx
      have h1:0≤n:=ho _ (by simp)
      have h2:n≤(len:Int):=ho _ (by simp)
      refine⟨⟨rfl,rfl⟩,.slice (some ⟨c.1,c.2+(o+0),none⟩) n.toNat (len-0),by simp[den,hc],?_⟩
      simp[Instr.sliceAt,hu,Instr.sureAddr,Instr.sliceBounds,hsz,addr_add,run_sliceBound h1 h2]
     ·cases h
    ·simp only[den,Option.map_eq_some_iff]at ha
     obtain⟨c,hc,rfl⟩:=ha
     split at h
     ·simp only[pureR,Option.some.injEq]at h;subst h
      have:=hln rfl;subst this
      have:=hhn rfl;subst this
      refine⟨⟨rfl,rfl⟩,.slice (some ⟨c.1,c.2+0*te.size,none⟩) len len,by simp[den,hc],?_⟩
      simp[Instr.sliceAt,hu,Instr.sureAddr,Instr.sliceBounds,hsz,addr_add]
     ·rename_i k n
      simp only[pureR,Option.some.injEq]at h;subst h
      have:=hln rfl;subst this
      obtain⟨_,rfl,hx⟩:=hh _ rfl
      simp only[den,Option.some.injEq]at hx;subst hx
      have h1:0≤n:=ho _ (by simp)
      have h2:n≤(len:Int):=ho _ (by simp)
      refine⟨⟨rfl,rfl⟩,.slice (some ⟨c.1,c.2+0*te.size,none⟩) n.toNat len,by simp[den,hc],?_⟩
      simp[Instr.sliceAt,hu,Instr.sureAddr,Instr.sliceBounds,hsz,addr_add,run_sliceBound h1 h2]
     ·cases h
   ·cases h
  ·cases h
 ·cases h
def evExtract(x:SV)(ix:Nat):Option Res:=
 match x with
 | .tup vs=>match vs[ix]? with
  |some v=>pureR v
  |none=>none
 |_=>none
theorem evExtract_ok{P:Program}{x:SV}{ix:Nat}{r:Res}(h:evExtract x ix=some r){η:Nam}{a:Value}(ha:den η x=some a)(w:World):
  (r.wr=none∧r.nw=none)∧ ∃v,den η r.v=some v∧(Instr.extract a ix).run P w= .ok v w:=by
 unfold evExtract at h;split at h
 ·split at h
  ·rename_i v hv;simp only[pureR,Option.some.injEq]at h;subst h;simp only[den,Option.map_eq_some_iff]at ha;obtain⟨us,hd,rfl⟩:=ha;obtain⟨u,h1,h2⟩:=denL_get hd hv;exact⟨⟨rfl,rfl⟩,u,h1,by simp[Instr.extract,h2]⟩
  ·cases h
 ·cases h
def ifaceB:TypeDesc→Bool
 | .interface _=>true
 |_=>false
def evIface(E:Env)(t:Nat)(x:SV):Option Res:=
 match E.ty t with
 |some ti=>if ifaceB ti.desc then none else pureR (.iface t x)
 |none=>none
theorem evIface_ok{E:Env}{P:Program}(hE:E.ok P){t:Nat}{x:SV}{r:Res}(h:evIface E t x=some r){η:Nam}{a:Value}(ha:den η x=some a)(w:World):
  (r.wr=none∧r.nw=none)∧ ∃v,den η r.v=some v∧(Instr.makeInterface t a).run P w= .ok v w:=by
 unfold evIface at h;split at h
 ·rename_i ti ht;have hu:=(hE.ty _ _ ht).underlying (w:=w);split at h
  ·cases h
  ·rename_i hni;simp only[pureR,Option.some.injEq]at h;subst h;refine⟨⟨rfl,rfl⟩,.iface t a,by simp[den,ha],?_⟩;simp only[Instr.makeInterface,Sem.run_bind,hu,Result.andThen_ok];split
   ·rename_i e;rw[e]at hni;simp[ifaceB]at hni
   ·rfl
 ·cases h
def evAssert(E:Env)(x:SV)(asserted:Nat)(commaOk:Bool):Option Res:=
 match E.ty asserted with
 |some ti=>if ifaceB ti.desc then none else match x with
  | .iface t v=>if t=asserted then pureR (if commaOk then .tup [v,.bool true]else v)
   else if commaOk then pureR (.tup [ti.zero,.bool false])else none
  | .inil=>if commaOk then pureR (.tup [ti.zero,.bool false])else none
  |_=>none
 |none=>none
theorem evAssert_ok{E:Env}{P:Program}(hE:E.ok P){x:SV}{xt asserted:Nat}{ok:Bool}{r:Res}(h:evAssert E x asserted ok=some r){η:Nam}{a:Value}(ha:den η x=some a)(w:World):
  (r.wr=none∧r.nw=none)∧ ∃v,den η r.v=some v∧(Instr.typeAssert a xt asserted ok).run P w= .ok v w:=by
 unfold evAssert at h;split at h
 ·rename_i ti ht;have hu:=(hE.ty _ _ ht).underlying (w:=w);obtain⟨z,hz,hzd⟩:=(hE.ty _ _ ht).zero (w:=w);split at h
  ·cases h
  ·rename_i hni;have hni:ifaceB ti.desc=false:=by simpa using hni
   have hnot: ∀m,ti.desc≠ .interface m:=fun m e=>by rw[e]at hni;simp[ifaceB]at hni
   split at h
   ·rename_i t v;simp only[den,Option.map_eq_some_iff]at ha;obtain⟨u,hu',rfl⟩:=ha;split at h
    ·rename_i hta;subst hta;simp only[pureR,Option.some.injEq]at h;subst h;cases ok
     ·refine⟨⟨rfl,rfl⟩,u,by simpa using hu',?_⟩;simp only[Instr.typeAssert,Sem.run_bind,hu,Result.andThen_ok];cases hde:ti.desc<;>first|(exact absurd hde (hnot _))|simp
     ·refine⟨⟨rfl,rfl⟩,.tuple #[u,.bool true],by simp[den,denL,hu'],?_⟩;simp only[Instr.typeAssert,Sem.run_bind,hu,Result.andThen_ok];cases hde:ti.desc<;>first|(exact absurd hde (hnot _))|simp
    ·rename_i hta;split at h
     ·rename_i hok;subst hok;simp only[pureR,Option.some.injEq]at h;subst h;refine⟨⟨rfl,rfl⟩,.tuple #[z,.bool false],by simp[den,denL,hzd],?_⟩;simp only[Instr.typeAssert,Sem.run_bind,hu,Result.andThen_ok];cases hde:ti.desc<;>first|(exact absurd hde (hnot _))|simp[hta,hz]
     ·cases h
   ·split at h
    ·rename_i hok;subst hok;simp only[den,Option.some.injEq]at ha;subst ha;simp only[pureR,Option.some.injEq]at h;subst h;refine⟨⟨rfl,rfl⟩,.tuple #[z,.bool false],by simp[den,denL,hzd],?_⟩;simp only[Instr.typeAssert,Sem.run_bind,hu,Result.andThen_ok];cases hde:ti.desc<;>first|(exact absurd hde (hnot _))|simp[hz]
    ·cases h
   ·cases h
 ·cases h
def evFn(f:Fn)(first cap:List SV):Option Res:=pureR (.fn f first cap)
def evNil(E:Env)(x:SV):Option Res:=
 match x with
 | .fn (.method name) [.iface t v] b=>if E.ahead t name then pureR (.fn (.method name) [.iface t v] b)else none
 | .ptr .. | .eptr .. | .aptr .. | .yld _| .iface .. =>pureR x
 | .fn (.func f) a b=>pureR (.fn (.func f) a b)
 |_=>none
/-! ### Builtins that only reckon -/
def evLen(E:Env)(t:Nat)(x:SV):Option Res:=
 match E.ty t,x with
 |some ti,.slice _ _ _ len _=>match ti.desc with| .slice _=>pureR (.int .i64 len)|_=>none
 |some ti,.asl _ _ _ _ len=>match ti.desc with| .slice _=>pureR (.int .i64 len)|_=>none
 |some ti,.snil=>match ti.desc with| .slice _=>pureR (.int .i64 0)|_=>none
 |some ti,.osl _ _ _ len _=>match ti.desc with| .slice _=>pureR (.int .i64 len)|_=>none
 |some ti,.row _ _ len _=>match ti.desc with| .slice _=>pureR (.int .i64 len)|_=>none
 |some ti,.agg _=>match ti.desc with| .array n _=>pureR (.int .i64 n)|_=>none
 |_,_=>none
theorem evLen_ok{E:Env}{P:Program}(hE:E.ok P){t:Nat}{x:SV}{r:Res}(h:evLen E t x=some r){η:Nam}{a:Value}(ha:den η x=some a)(tys:Array TypeId)(htys:tys[0]?=some t)(ty:TypeId)(w:World):
    (r.wr=none∧r.nw=none)∧ ∃v,den η r.v=some v∧(Builtin.len_ tys ty #[a]).run P w= .ok v w:=by
  unfold evLen at h;split at h;all_goals first
    |(cases h;done)
    | (rename_i ht
       have hu:=(hE.ty _ _ ht).underlying (w:=w);split at h
       · rename_i hd;simp only[pureR,Option.some.injEq]at h;subst h;rw[hd]at hu;simp only[den,Option.bind_eq_some_iff]at ha;obtain⟨c,_,ha⟩:=ha;unfold rowV at ha;split at ha
         · split at ha
           · rename_i hz;obtain⟨rfl,rfl⟩:=hz;cases ha;exact⟨⟨rfl,rfl⟩,_,rfl,by simp[Builtin.len_,htys,hu,goInt]⟩
           · cases ha
         · cases ha;exact⟨⟨rfl,rfl⟩,_,rfl,by simp[Builtin.len_,htys,hu,goInt]⟩
       · cases h)
    | (rename_i ht
       have hu:=(hE.ty _ _ ht).underlying (w:=w);split at h
       · rename_i hd;simp only[pureR,Option.some.injEq]at h;subst h;rw[hd]at hu;simp only[den,Option.map_eq_some_iff,Option.some.injEq]at ha;first
           |(obtain⟨c,_,rfl⟩:=ha;exact⟨⟨rfl,rfl⟩,_,rfl,by simp[Builtin.len_,htys,hu,goInt]⟩)
           |(subst ha;exact⟨⟨rfl,rfl⟩,_,rfl,by simp[Builtin.len_,htys,hu,goInt]⟩)
           | (split at ha
              · simp only[Option.map_eq_some_iff]at ha;obtain⟨c,_,rfl⟩:=ha;exact⟨⟨rfl,rfl⟩,_,rfl,by simp[Builtin.len_,htys,hu,goInt]⟩
              · split at ha
                · rename_i hz;obtain⟨rfl,rfl⟩:=hz;cases ha;exact⟨⟨rfl,rfl⟩,_,rfl,by simp[Builtin.len_,htys,hu,goInt]⟩
                · cases ha)
       · cases h)
def evMin(l:List SV):Option Res:=
 match l with
 |[.int k x,.int k' y]=>if k=k' then pureR (.int k (if y<x then y else x))else none
 |[.int k x,.int k' y,.int k'' z]=>if k=k'∧k=k'' then pureR (.int k (if z<(if y<x then y else x)then z else(if y<x then y else x)))else none
 |_=>none
def mx(x y:Int):Int:=if y>x then y else x
def evMax(l:List SV):Option Res:=
 match l with
 |[.int k x,.int k' y]=>if k=k' then pureR (.int k (if y>x then y else x))else none
 |[.int k x,.int k' y,.int k'' z]=>if k=k'∧k=k'' then pureR (.int k (if z>(if y>x then y else x)then z else(if y>x then y else x)))else none
 |[.int k x,.int k' y,.int k'' z,.int k3 u]=>if k=k'∧k=k''∧k=k3 then pureR (.int k (mx (mx (mx x y) z) u))else none
 |[.int k x,.int k' y,.int k'' z,.int k3 u,.int k4 v]=>if k=k'∧k=k''∧k=k3∧k=k4 then pureR (.int k (mx (mx (mx (mx x y) z) u) v))else none
 |_=>none
theorem evMin_ok{P:Program}{l:List SV}{r:Res}(h:evMin l=some r){η:Nam}{vs:List Value}(hd:denL η l=some vs)(tys:Array TypeId)(ty:TypeId)(w:World):
  (r.wr=none∧r.nw=none)∧ ∃v,den η r.v=some v∧(Builtin.min_ tys ty vs.toArray).run P w= .ok v w:=by
 unfold evMin at h;split at h
 ·split at h
  ·rename_i hk;subst hk;simp only[pureR,Option.some.injEq]at h;subst h;simp[denL,den]at hd;subst hd;exact⟨⟨rfl,rfl⟩,_,rfl,by simp[Builtin.min_,Builtin.min2]⟩
  ·cases h
 ·split at h
  ·rename_i hk;obtain⟨rfl,rfl⟩:=hk;simp only[pureR,Option.some.injEq]at h;subst h;simp[denL,den]at hd;subst hd;exact⟨⟨rfl,rfl⟩,_,rfl,by simp[Builtin.min_,Builtin.min2]⟩
  ·cases h
 ·cases h
theorem evMax_ok{P:Program}{l:List SV}{r:Res}(h:evMax l=some r){η:Nam}{vs:List Value}(hd:denL η l=some vs)(tys:Array TypeId)(ty:TypeId)(w:World):
  (r.wr=none∧r.nw=none)∧ ∃v,den η r.v=some v∧(Builtin.max_ tys ty vs.toArray).run P w= .ok v w:=by
 unfold evMax at h;split at h
 ·split at h
  ·rename_i hk;subst hk;simp only[pureR,Option.some.injEq]at h;subst h;simp[denL,den]at hd;subst hd;exact⟨⟨rfl,rfl⟩,_,rfl,by simp[Builtin.max_,Builtin.max2]⟩
  ·cases h
 ·split at h
  ·rename_i hk;obtain⟨rfl,rfl⟩:=hk;simp only[pureR,Option.some.injEq]at h;subst h;simp[denL,den]at hd;subst hd;exact⟨⟨rfl,rfl⟩,_,rfl,by simp[Builtin.max_,Builtin.max2]⟩
  ·cases h
 ·split at h
  ·rename_i hk;obtain⟨rfl,rfl,rfl⟩:=hk;simp only[pureR,Option.some.injEq]at h;subst h;simp[denL,den]at hd;subst hd;exact⟨⟨rfl,rfl⟩,_,rfl,by simp[Builtin.max_,Builtin.max2,mx]⟩
  ·cases h
 ·split at h
  ·rename_i hk;obtain⟨rfl,rfl,rfl,rfl⟩:=hk;simp only[pureR,Option.some.injEq]at h;subst h;simp[denL,den]at hd;subst hd;exact⟨⟨rfl,rfl⟩,_,rfl,by simp[Builtin.max_,Builtin.max2,mx]⟩
  ·cases h
 ·cases h
theorem holds_cells_new{η:Nam}{cs:List SV}{vs:List Value}{w:World}{T:TypeId}{F:Nat→Prop}(hd:denL η cs=some vs):
  (SObj.cells cs).holds η (w.heap.size,0) F {w with heap:=w.heap.push (.cells vs.toArray T)} :=
 ⟨rfl,T,vs,hd,by simp⟩
theorem run_newRow{P:Program}{w:World}(T:TypeId)(c:Array Value):(newRow T c).run P w= .ok ⟨w.heap.size,0,none⟩ {w with heap:=w.heap.push (.cells c T)} :=by
 simp[newRow]
def Gives(P:Program)(s:Sem Next)(r:Res)(η:Nam)(φ:Feet)(h:SHeap)(nid:Nat)(w0:World)(Ef:Nat→Prop)(w:World):Prop:=
 ∃nx v w' η',s.run P w= .ok nx w'∧(nx= .value v∨(nx= .skip∧v=undef))∧den η' r.v=some v∧η.le η'∧(∀i,i≠nid→η' i=η i)∧Sat η' φ (r.heap h nid) w0 Ef w'∧(r.wr=none→r.nw=none→w'=w∧nx= .value v∧den η r.v=some v)
theorem Gives.plain{P:Program}{s:Sem Value}{r:Res}{η:Nam}{φ:Feet}{h:SHeap}{nid:Nat}{w0:World}{Ef:Nat→Prop}{w:World}(hs:Sat η φ h w0 Ef w)
  (hr:(r.wr=none∧r.nw=none)∧ ∃v,den η r.v=some v∧s.run P w= .ok v w):Gives P (do pure (.value (←s))) r η φ h nid w0 Ef w:=by
 obtain⟨⟨h1,h2⟩,v,h3,h4⟩:=hr;exact⟨.value v,v,w,η,by simp[h4],.inl rfl,h3,.refl η,fun _ _=>rfl,by simp only[Res.heap,h1,h2];exact hs,fun _ _=>⟨rfl,rfl,h3⟩⟩
theorem Gives.new{P:Program}{s:Sem Value}{v:SV}{o:SObj}{ob:List Prop}{rd:List Nat}{u:Value}{blk:Obj}{η:Nam}{φ:Feet}{h:SHeap}{nid:Nat}{w0:World}{Ef:Nat→Prop}{w:World}(hs:Sat η φ h w0 Ef w)
  (hn:h[nid]?=some none) (hrw:o.rw=true) (hf: ∀b,o.foot (w.heap.size,0) (φ nid) b→b=w.heap.size)
  (hrun:s.run P w= .ok u {w with heap:=w.heap.push blk}) (hv:den (η.put nid (w.heap.size,0)) v=some u)
  (ho:o.holds (η.put nid (w.heap.size,0)) (w.heap.size,0) (φ nid) {w with heap:=w.heap.push blk}):
  Gives P (do pure (.value (←s))) {v,wr:=none,nw:=some o,ob,rd} η φ h nid w0 Ef w:=
 ⟨.value u,u,{w with heap:=w.heap.push blk},η.put nid (w.heap.size,0),by simp[hrun],.inl rfl,hv,
  Nam.le_put (hs.free fun o=>by rw[hn];simp),fun i hi=>Nam.put_other η _ hi,hs.new hn hrw hf ho,fun _ h=>by cases h⟩
def zeroCells(E:Env)(t:Nat):Option (List SV):=
 match E.ty t with
 |some ti=>cellsOf ti.zero
 |none=>none
def evAlloc(E:Env)(t:Nat)(nid:Nat):Option Res:=
 match zeroCells E t with
 |some cs=>some {v:= .ptr nid 0,wr:=none,nw:=some (.cells cs),ob:=[],rd:=[]}
 |none=>none
theorem evAlloc_ok{E:Env}{P:Program}(hE:E.ok P){t nid:Nat}{r:Res}(h:evAlloc E t nid=some r){η:Nam}{φ:Feet}{hp:SHeap}{w0 w:World}{Ef:Nat→Prop}(hs:Sat η φ hp w0 Ef w)(hn:hp[nid]?=some none):
  Gives P (do pure (.value (←Instr.alloc t true (.tuple #[])))) r η φ hp nid w0 Ef w:=by
 unfold evAlloc at h;split at h
 ·rename_i cs hcs;cases h;unfold zeroCells at hcs;split at hcs
  ·rename_i ti ht;obtain⟨z,hz,hzd⟩:=(hE.ty _ _ ht).zero (w:=w);obtain⟨vs,h1,h2⟩:=cellsOf_ok hcs (hzd (η.put nid (w.heap.size,0)));refine Gives.new (u:= .pointer (some ⟨w.heap.size,0,none⟩)) (blk:= .cells vs.toArray t) hs hn rfl (fun b hb=>hb.symm) ?_ (by simp[den,Nam.put_same]) (holds_cells_new h1);simp[Instr.alloc,hz,newVar,run_newRow,h2]
  ·cases hcs
 ·cases h
def evBox(x:SV)(nid:Nat):Option Res:=
 match cellsOf x with
 |some cs=>some {v:= .ptr nid 0,wr:=none,nw:=some (.cells cs),ob:=[],rd:=[]}
 |none=>none
theorem evBox_ok{P:Program}{x:SV}{t nid:Nat}{r:Res}(h:evBox x nid=some r){η:Nam}{φ:Feet}{hp:SHeap}{w0 w:World}{Ef:Nat→Prop}(hs:Sat η φ hp w0 Ef w)(hn:hp[nid]?=some none){a:Value}(ha:den η x=some a):
  Gives P (do pure (.value (←Instr.box t a))) r η φ hp nid w0 Ef w:=by
 unfold evBox at h;split at h
 ·rename_i cs hcs;cases h;have hle := Nam.le_put (a := (w.heap.size, 0)) (hs.free (i := nid) fun o => by rw [hn]; simp);obtain ⟨vs, h1, h2⟩ := cellsOf_ok hcs ha;refine Gives.new (u := .pointer (some ⟨w.heap.size, 0, none⟩)) (blk := .cells vs.toArray t) hs hn rfl (fun b hb => hb.symm) ?_ (by simp [den, Nam.put_same]) (holds_cells_new (denL_mono hle _ _ h1));simp [Instr.box, newVar, run_newRow, h2]
 ·cases h
/-! ### Values built of parts -/
def fillS(place:Nat→Option (Nat×Nat))(cells:List SV):List (Nat×SV)→Option (List SV)
 |[]=>some cells
 |(i,v)::rest=>match place i,cellsOf v with
  |some (off,size),some cs=>if cs.length=size∧off+cs.length≤cells.length then fillS place (splice cells off cs) rest else none
  |_,_=>none
theorem foldl_splice(off:Nat): ∀(us:List Value) (cells:Array Value) (k:Nat),off+k+us.length≤cells.size→
  (us.zipIdx k).foldl (fun cs (c,j)=>cs.setIfInBounds (off+j) c) cells=(splice cells.toList (off+k) us).toArray
 |[],cells,k,_=>by simp[splice]
 |u::us,cells,k,h=>by
  simp only[List.length_cons]at h;simp only[List.zipIdx_cons,List.foldl_cons];rw[foldl_splice off us _ (k+1) (by simp;omega)];have hlt:off+k<cells.size:=by omega
  rw[Array.toList_setIfInBounds,show off+(k+1)=off+k+1 by omega,splice_cons _ _ _ _ (by simpa using hlt)]
theorem fillS_ok{place:Nat→Option (Nat×Nat)}{η:Nam} : ∀{parts:List (Nat×SV)} {cells cs:List SV} {vs:List Value} {ps:List (Nat×Value)},fillS place cells parts=some cs→denL η cells=some vs→
  ps.length=parts.length→(∀(j i:Nat) (sv:SV),parts[j]?=some (i,sv)→ ∃v,den η sv=some v∧ps[j]?=some (i,v))→ ∃us,denL η cs=some us∧Instr.fill place vs.toArray ps=some us.toArray
 |[],cells,cs,vs,ps,h,hd,hl,_=>by
  simp only[fillS,Option.some.injEq]at h;subst h;have:ps=[]:=List.length_eq_zero_iff.1 (by simpa using hl);subst this;exact⟨vs,hd,rfl⟩
 |(i,sv)::rest,cells,cs,vs,ps,h,hd,hl,hp=>by
  cases ps with
  |nil=>simp at hl
  |cons p ps=>
   obtain⟨v,hv,hp0⟩:=hp 0 i sv rfl;simp only[List.getElem?_cons_zero,Option.some.injEq]at hp0;subst hp0;simp only[fillS]at h;split at h
   ·rename_i off size cs' hpl hcs';split at h
    ·rename_i hc;obtain⟨hc1,hc2⟩:=hc;obtain⟨us,h1,h2⟩:=cellsOf_ok hcs' hv;have hlu:=denL_length h1;have hlv:=denL_length hd;obtain⟨us',h3,h4⟩:=fillS_ok (ps:=ps) h (denL_splice off hd h1) (by simpa using hl) (fun j i sv hj=>hp (j+1) i sv (by simpa using hj));refine⟨us',h3,?_⟩;simp only[Instr.fill,hpl,h2,List.size_toArray];rw[if_neg (by simp;omega)];have hf:=foldl_splice off us vs.toArray 0 (by simp;omega);simp only[Nat.add_zero]at hf;have hz:(us.toArray.zipIdx).foldl (fun cs (c,j)=>cs.setIfInBounds (off+j) c) vs.toArray=(splice vs off us).toArray:=by
      rw[←Array.foldl_toList];simpa using hf
     rw[hz];exact h4
    ·cases h
   ·cases h
def placesOf(E:Env)(fs:Array Field)(i:Nat):Option (Nat×Nat):=
 match fs[i]? with
 |some f=>match E.ty f.type with
  |some tf=>some (f.offset,tf.size)
  |none=>none
 |none=>none
def fieldsKnown(E:Env):List Field→Bool
 |[]=>true
 |f::fs=>(E.ty f.type).isSome&&fieldsKnown E fs
def evBuild(E:Env)(t:Nat)(parts:List (Nat×SV)):Option Res:=
 match E.ty t with
 |some ti=>match ti.zero with
  | .agg z=>match ti.desc with
   | .struct fs=>if fieldsKnown E fs.toList then match fillS (placesOf E fs) z parts with
     |some cs=>pureR (.agg cs)
     |none=>none
    else none
   | .array _ e=>match E.ty e with
    |some te=>match fillS (fun i=>some (i*te.size,te.size)) z parts with
     |some cs=>pureR (.agg cs)
     |none=>none
    |none=>none
   |_=>none
  |_=>none
 |none=>none
theorem run_placesL{E:Env}{P:Program}(hE:E.ok P){w:World} : ∀(fs:List Field),fieldsKnown E fs=true→
  (fs.mapM (fun f=>(do pure (f.offset,←sizeOf f.type):Sem (Nat×Nat)))).run P w= .ok (fs.map fun f=>(f.offset,((E.ty f.type).map (·.size)).getD 0)) w
 |[],_=>by simp
 |f::fs,h=>by
  simp only[fieldsKnown,Bool.and_eq_true]at h;obtain⟨h1,h2⟩:=h;obtain⟨tf,htf⟩:=Option.isSome_iff_exists.1 h1;have hsz:=(hE.ty _ _ htf).sizeOf (w:=w);have ih:=run_placesL hE (w:=w) fs h2;simp only[List.mapM_cons,bind_assoc,pure_bind,Sem.run_bind,hsz,Result.andThen_ok,List.map_cons,htf,Option.map_some,Option.getD_some,ih,Sem.run_pure]
theorem run_places{E:Env}{P:Program}(hE:E.ok P){w:World}(fs:Array Field)(h:fieldsKnown E fs.toList=true):
  (fs.mapM (fun f=>(do pure (f.offset,←sizeOf f.type):Sem (Nat×Nat)))).run P w= .ok (fs.toList.map fun f=>(f.offset,((E.ty f.type).map (·.size)).getD 0)).toArray w:=by
 rw[Array.mapM_eq_mapM_toList,Sem.run_map,run_placesL hE _ h];rfl
theorem getElem_places{E:Env}{fs:Array Field}(h:fieldsKnown E fs.toList=true)(i:Nat):(fs.toList.map fun f=>(f.offset,((E.ty f.type).map (·.size)).getD 0)).toArray[i]?=placesOf E fs i:=by
 simp only[placesOf,List.getElem?_toArray,List.getElem?_map,Array.getElem?_toList];cases hf:fs[i]? with
 |none=>simp
 |some f=>
  have hmem:f∈fs.toList:=Array.mem_toList_iff.2 (Array.mem_of_getElem? hf);have: ∀l:List Field,fieldsKnown E l=true→f∈l→(E.ty f.type).isSome=true:=by
   intro l;induction l with
   |nil=>simp
   |cons x xs ih=>
    intro hk hm;simp only[fieldsKnown,Bool.and_eq_true]at hk;rcases List.mem_cons.1 hm with rfl|hm
    ·exact hk.1
    ·exact ih hk.2 hm
  obtain⟨tf,htf⟩:=Option.isSome_iff_exists.1 (this _ h hmem);simp[htf]
theorem evBuild_ok{E:Env}{P:Program}(hE:E.ok P){t:Nat}{parts:List (Nat×SV)}{r:Res}(h:evBuild E t parts=some r){η:Nam}{ps:Array (Nat×Value)}(hl:ps.toList.length=parts.length)
  (hp: ∀(j i:Nat) (sv:SV),parts[j]?=some (i,sv)→ ∃v,den η sv=some v∧ps.toList[j]?=some (i,v)) (w:World):
  (r.wr=none∧r.nw=none)∧ ∃v,den η r.v=some v∧(Instr.build t ps).run P w= .ok v w:=by
 unfold evBuild at h
 split at h
 ·rename_i ti ht
  have hu:=(hE.ty _ _ ht).underlying (w:=w)
  obtain⟨z,hz,hzd⟩:=(hE.ty _ _ ht).zero (w:=w)
  split at h
  ·rename_i zl hzl
   have hzd':=hzd η
   rw[hzl]at hzd'
   simp only[den,Option.map_eq_some_iff]at hzd'
   obtain⟨zs,hzs,rfl⟩:=hzd'
   split at h
   ·rename_i fs hd
    rw[hd]at hu
    split at h
    ·rename_i hk
     split at h
     ·rename_i cs hcs
      simp only[pureR,Option.some.injEq]at h;subst h
      obtain⟨us,h1,h2⟩:=fillS_ok hcs hzs hl hp
      refine⟨⟨rfl,rfl⟩,.agg us.toArray,by simp[den,h1],?_⟩
      have hpl:(fun i=>(fs.toList.map fun f=>(f.offset,((E.ty f.type).map (·.size)).getD 0)).toArray[i]?)=placesOf E fs:=funext fun i=>getElem_places hk i
      simp only[Instr.build,Sem.run_bind,hz,Result.andThen_ok,hu,Value.cells,run_places hE fs hk,hpl,h2,Sem.run_pure]
     ·cases h
    ·cases h
   ·rename_i n e hd
    rw[hd]at hu
    split at h
    ·rename_i te hte
     have hsz:=(hE.ty _ _ hte).sizeOf (w:=w)
     split at h
     ·rename_i cs hcs
      simp only[pureR,Option.some.injEq]at h;subst h
      obtain⟨us,h1,h2⟩:=fillS_ok hcs hzs hl hp
      refine⟨⟨rfl,rfl⟩,.agg us.toArray,by simp[den,h1],?_⟩
      simp[Instr.build,hz,hu,hsz,Value.cells,h2]
     ·cases h
    ·cases h
   ·cases h
  ·cases h
 ·cases h
end Go.Sy
