/-
  Parts: Sy1, Sy2.
-/
import Derived.Test.YthnhlkflkidemaaGreatDoorB3
import Derived.IntWalk
set_option linter.unusedVariables false
set_option linter.unusedSimpArgs false
/-
 Sy1: one operation, carried out on symbolic values: what it gives, and that the machine gives just that. No program is named.
-/
namespace Go.Sy
structure TI where
 desc:TypeDesc
 size:Nat
 bytes:Nat
 zero:SV
structure Env where
 ty:Nat→Option TI
 wrap:Bool
 fn:Nat→Bool
 meth:Nat→String→Option Nat
 memo:Nat→Option Nat
 ahead:Nat→String→Bool
 eqs:Nat→Option Nat
 eqb:Nat→Option Nat
 cm:Nat→Bool
 gm:Nat→Option GShape
def aggB:TypeDesc→Bool
 | .struct _| .array _ _=>true
 |_=>false
structure TyOk(P:Program)(t:Nat)(i:TI):Prop where
 desc:P.underlying t=some i.desc
 info: ∃info z,P.info? t=some info∧info.size=i.size∧info.bytes=i.bytes∧info.zero=some z∧(∀η,den η i.zero=some z)∧z.cells.size=i.size
structure Env.ok(E:Env)(P:Program):Prop where
 ty: ∀t i,E.ty t=some i→TyOk P t i
 fn : ∀ k, E.fn k = true → ∃ f, P.funcs[k]? = some f ∧ f.body.isSome = true ∧ (f.name == "runtime.NumGoroutine") = false
 meth: ∀t name f,E.meth t name=some f→E.fn f=true∧ ∀v w,(method (P.types.size+Made.depth) t v name).run P w= .ok (f,v) w
 mixed:P.follows .mixedOrders=true
 memo: ∀t n,E.memo t=some n→MemoTy P t n
 ahead: ∀t name,E.ahead t name=true→ ∀v w,(nilAhead (P.types.size+Made.depth) t v name).run P w= .ok (some false) w
 eqs: ∀t n,E.eqs t=some n→EqTy P t n
 eqb: ∀t n,E.eqb t=some n→EqTyB P t n
 cm: ∀t,E.cm t=true→CMapTy P t
 gm: ∀t g,E.gm t=some g→GMapTy P t g
section runs
variable {P:Program} {w:World} {t:Nat} {i:TI}
theorem TyOk.underlying(h:TyOk P t i):(underlying t).run P w= .ok i.desc w:=by
 simp[Go.underlying,h.desc]
theorem TyOk.isAgg(h:TyOk P t i):(isAgg t).run P w= .ok (aggB i.desc) w:=by
 simp only[Go.isAgg,Sem.run_bind,h.underlying,Result.andThen_ok];cases i.desc<;>simp[aggB]
theorem TyOk.sizeOf(h:TyOk P t i):(sizeOf t).run P w= .ok i.size w:=by
 obtain⟨info,z,h1,h2,_⟩:=h.info;simp[Go.sizeOf,typeInfo,h1,h2]
theorem TyOk.bytes(h:TyOk P t i): ∃info,(typeInfo t).run P w= .ok info w∧info.bytes=i.bytes:=by
 obtain⟨info,z,h1,h2,h3,_⟩:=h.info;exact⟨info,by simp[typeInfo,h1],h3⟩
theorem TyOk.zero(h:TyOk P t i): ∃z,(zeroValue t).run P w= .ok z w∧ ∀η,den η i.zero=some z:=by
 obtain⟨info,z,h1,h2,h3,h4,h5⟩:=h.info;exact⟨z,by simp[zeroValue,typeInfo,h1,h4],h5.1⟩
end runs
structure Res where
 v:SV
 wr:Option (Nat×SObj)
 nw:Option SObj
 ob:List Prop
 rd:List Nat
def Res.heap(r:Res)(h:SHeap)(nid:Nat):SHeap:=
 let h1:=match r.wr with|some (i,o)=>h.set i (some o)|none=>h
 match r.nw with|some o=>h1.set nid (some o)|none=>h1
def pureR(v:SV)(ob:List Prop:=[]):Option Res:=some {v,wr:=none,nw:=none,ob,rd:=[]}
/-! ### Pieces -/
def cellsOf:SV→Option (List SV)
 | .agg cs=>some cs
 | .val _| .tup _=>none
 |x=>some [x]
theorem cellsOf_ok{η:Nam}{sv:SV}{cs:List SV}{v:Value}(h:cellsOf sv=some cs)(hd:den η sv=some v): ∃vs,denL η cs=some vs∧v.cells=vs.toArray:=by
  cases sv<;>simp only[cellsOf,Option.some.injEq,reduceCtorEq]at h<;>subst h;case agg=>simp only[den,Option.map_eq_some_iff]at hd;obtain⟨vs,h1,rfl⟩:=hd;exact⟨vs,h1,rfl⟩
  all_goals
    refine⟨[v],?_,?_⟩
    · simp[denL,hd]
    · simp only[den,Option.map_eq_some_iff,Option.bind_eq_some_iff,Option.some.injEq]at hd;first
        |(subst hd;rfl)
        |(obtain⟨a,_,rfl⟩:=hd;rfl)
        |(obtain⟨a,_,b,_,rfl⟩:=hd;rfl)
        | (obtain ⟨a, _, hd⟩ := hd
           unfold rowV at hd;split at hd
           · split at hd
             · cases hd;rfl
             · cases hd
           · cases hd;rfl)
        | (split at hd
           · simp only[Option.map_eq_some_iff]at hd;obtain⟨a,_,rfl⟩:=hd;rfl
           · split at hd
             · cases hd;rfl
             · cases hd)
def splice{α:Type}(l:List α)(off:Nat)(cs:List α):List α:=l.take off++(cs++l.drop (off+cs.length))
theorem denL_splice{η:Nam}{l cs:List SV}{vs us:List Value}(off:Nat)(h:denL η l=some vs)(h':denL η cs=some us):denL η (splice l off cs)=some (splice vs off us):=by
 have e:=denL_length h';unfold splice;rw[e];exact denL_append (denL_take off h) (denL_append h' (denL_drop _ h))
theorem splice_cons{α:Type}(l:List α)(off:Nat)(c:α)(cs:List α)(h:off<l.length):splice (l.set off c) (off+1) cs=splice l off (c::cs):=by
 unfold splice;rw[List.take_set,List.drop_set,if_pos (by omega)];rw[List.take_succ_eq_append_getElem h,List.set_append];rw[if_neg (by simp;omega)];simp[Nat.min_eq_left (Nat.le_of_lt h),Nat.add_assoc,Nat.add_comm 1]
theorem splice_length{α:Type}(l:List α)(off:Nat)(cs:List α)(h:off+cs.length≤l.length):(splice l off cs).length=l.length:=by
 unfold splice;simp;omega
theorem splice_get{α:Type}(l:List α)(off:Nat)(cs:List α)(h:off+cs.length≤l.length)(j:Nat):
  (splice l off cs)[j]?=if off≤j∧j<off+cs.length then cs[j-off]? else l[j]?:=by
 unfold splice;have hl:(l.take off).length=off:=by simp;omega
 rw[List.getElem?_append,hl];split
 ·rename_i h1;rw[List.getElem?_take,if_pos h1,if_neg (by omega)]
 ·rename_i h1;rw[List.getElem?_append];split
  ·rename_i h2;rw[if_pos (by omega)]
  ·rename_i h2;rw[if_neg (by omega),List.getElem?_drop];congr 1;omega
def intsOf:List SV→Option (IntKind×List Int)
 |[.int k n]=>some (k,[n])
 | .int k n::rest=>match intsOf rest with
  |some (k',ns)=>if k=k' then some (k,n::ns)else none
  |none=>none
 |_=>none
theorem intsOf_ok: ∀{cs:List SV} {k:IntKind} {ns:List Int},intsOf cs=some (k,ns)→cs=ns.map (SV.int k)
 |[],k,ns,h=>by simp[intsOf]at h
 |[x],k,ns,h=>by
  cases x<;>simp[intsOf]at h;obtain⟨rfl,rfl⟩:=h;rfl
 |x::y::rest,k,ns,h=>by
  cases x<;>try(simp[intsOf]at h;done)
  rename_i k0 n0;have e0:intsOf (SV.int k0 n0::y::rest)=match intsOf (y::rest)with
   |some (k',ns)=>if k0=k' then some (k0,n0::ns)else none
   |none=>none:=rfl
  rw[e0]at h;cases h':intsOf (y::rest)with
  |none=>rw[h']at h;simp at h
  |some p=>
   obtain⟨k',ns'⟩:=p;rw[h']at h;simp only at h;split at h
   ·rename_i hk;subst hk;simp only[Option.some.injEq,Prod.mk.injEq]at h;obtain⟨rfl,rfl⟩:=h;rw[intsOf_ok h'];rfl
   ·cases h
theorem denL_ints{η:Nam}(k:IntKind): ∀(ns:List Int),denL η (ns.map (SV.int k))=some (ns.map (Value.int k))
 |[]=>rfl
 |n::ns=>denL_cons.2 ⟨.int k n,ns.map (Value.int k),rfl,denL_ints k ns,rfl⟩
def boolsOf:List SV→Option (List Bool)
 |[.bool b]=>some [b]
 | .bool b::rest=>match boolsOf rest with
  |some bs=>some (b::bs)
  |none=>none
 |_=>none
theorem boolsOf_ok: ∀{cs:List SV} {bs:List Bool},boolsOf cs=some bs→cs=bs.map SV.bool
 |[],bs,h=>by simp[boolsOf]at h
 |x::rest,bs,h=>by
  cases x;case bool b=>
   cases rest with
   |nil=>simp only[boolsOf,Option.some.injEq]at h;subst h;rfl
   |cons y rest=>
    simp only[boolsOf]at h;split at h
    ·rename_i bs' hr;simp only[Option.some.injEq]at h;subst h;rw[boolsOf_ok hr];rfl
    ·cases h
  all_goals(cases rest<;>simp[boolsOf]at h)
theorem denL_bools{η:Nam} : ∀(bs:List Bool),denL η (bs.map SV.bool)=some (bs.map Value.bool)
 |[]=>rfl
 |b::bs=>by simp[denL,den,denL_bools bs]
def SObj.list:SObj→Option (List SV)
 | .cells cs| .roc cs| .glob _ cs=>some cs
 |_=>none
theorem SObj.list_ok{η:Nam}{o:SObj}{cs:List SV}{a:Nat×Nat}{F:Nat→Prop}{w:World}(h:o.list=some cs)(hh:o.holds η a F w):
  ∃vs,denL η cs=some vs∧ ∀j v,vs[j]?=some v→w.cell? ⟨a.1,a.2+j,none⟩=some v:=by
 cases o<;>simp only[SObj.list,Option.some.injEq,reduceCtorEq]at h<;>subst h;case cells=>
  obtain⟨h0,T,vs,hd,hw⟩:=hh;exact⟨vs,hd,fun j v hj=>by simp[World.cell?,hw,h0,hj]⟩
 case roc=>
  obtain⟨c,T,fz,vs,hw,hd,hj⟩:=hh;exact⟨vs,hd,fun j v hv=>by simp[World.cell?,hw,hj j v hv]⟩
 case glob=>
  obtain⟨_,c,T,fz,vs,hw,hd,hj⟩:=hh;exact⟨vs,hd,fun j v hv=>by simp[World.cell?,hw,hj j v hv]⟩
def SObj.elems:SObj→Option (Nat×Nat×(Nat→List SV))
 | .arr sz n _ get=>some (sz,n,get)
 | .roa sz n get=>some (sz,n,get)
 |_=>none
theorem SObj.elems_ok{η:Nam}{o:SObj}{sz n:Nat}{get:Nat→List SV}{a:Nat×Nat}{F:Nat→Prop}{w:World}(h:o.elems=some (sz,n,get))(hh:o.holds η a F w):
  ∀k,k<n→ ∃vs,denL η (get k)=some vs∧vs.length=sz∧ ∀j v,vs[j]?=some v→w.cell? ⟨a.1,a.2+(k*sz+j),none⟩=some v:=by
 cases o<;>simp only[SObj.elems,Option.some.injEq,reduceCtorEq,Prod.mk.injEq]at h;case arr=>
  obtain⟨rfl,rfl,rfl⟩:=h;obtain⟨h0,T,c,hw,hs,hn,hk⟩:=hh;intro k hkn;obtain⟨vs,hd,hl,hj⟩:=hk k hkn;exact⟨vs,hd,hl,fun j v hv=>by simp[World.cell?,hw,h0,hj j v hv]⟩
 case roa=>
  obtain⟨rfl,rfl,rfl⟩:=h;obtain⟨c,T,fz,hw,hk⟩:=hh;intro k hkn;obtain⟨vs,hd,hl,hj⟩:=hk k hkn;exact⟨vs,hd,hl,fun j v hv=>by simp[World.cell?,hw,hj j v hv]⟩
theorem addr_add(b o n:Nat):(⟨b,o,none⟩:Addr).add n=⟨b,o+n,none⟩:=by
 unfold Addr.add;split
 ·rename_i h;subst h;rfl
 ·rfl
/-! ### Loads -/
def takeV(E:Env)(t:Nat)(cs:List SV):Option SV:=
 match E.ty t with
 |some ti=>if aggB ti.desc then(if ti.size≤cs.length then some (.agg (cs.take ti.size))else none)else cs.head?
 |none=>none
theorem takeV_ok{E:Env}{P:Program}(hE:E.ok P){t:Nat}{cs:List SV}{r:SV}(h:takeV E t cs=some r){η:Nam}{vs:List Value}(hd:denL η cs=some vs){w:World}{a:Addr}
  (hc: ∀j v,vs[j]?=some v→w.cell? (a.add j)=some v): ∃v,den η r=some v∧(loadVar t a).run P w= .ok v w:=by
 unfold takeV at h;cases ht:E.ty t with
 |none=>simp[ht]at h
 |some ti=>
  simp only[ht]at h;have ok:=hE.ty t ti ht;by_cases hag:aggB ti.desc=true
  ·simp only[hag,if_true]at h;split at h
   ·rename_i hlen;cases h;have hd':=denL_take ti.size hd;have hl':=denL_length hd;refine⟨.agg (vs.take ti.size).toArray,by simp[den,hd'],?_⟩;simp only[loadVar,Sem.run_bind,ok.isAgg,hag,Result.andThen_ok,if_true,ok.sizeOf];have hlc:=run_loadCells_list (P:=P) w a (vs.take ti.size) (fun j v hj=>hc j v (by
     rw[List.getElem?_take]at hj;split at hj
     ·exact hj
     ·cases hj))
    have hsz:(vs.take ti.size).length=ti.size:=by simp;omega
    rw[hsz]at hlc;simp[hlc]
   ·cases h
  ·have hag:aggB ti.desc=false:=by simpa using hag
   simp only[hag,Bool.false_eq_true,if_false]at h;have hg:cs[0]?=some r:=by rw[←h,List.head?_eq_getElem?]
   obtain⟨v,h1,h2⟩:=denL_get hd hg;have:=hc 0 v h2;rw[show a.add 0=a from rfl]at this;exact⟨v,h1,by simp[loadVar,ok.isAgg,hag,this]⟩
def evLoad(E:Env)(t:Nat)(x:SV)(h:SHeap):Option Res:=
 match x with
 | .ptr i o=>match h[i]? with
  |some (some ob)=>match ob.list with
   |some cs=>match takeV E t (cs.drop o)with
    |some v=>some {v,wr:=none,nw:=none,ob:=[],rd:=[i]}
    |none=>none
   |none=>none
  |_=>none
 | .eptr i sz k j=>match h[i]? with
  |some (some ob)=>match ob.elems with
   |some (sz',n,get)=>if sz=sz' then match takeV E t ((get k).drop j)with
     |some v=>some {v,wr:=none,nw:=none,ob:=[k<n],rd:=[i]}
     |none=>none
    else none
   |none=>match ob.list,E.ty t with
    |some cs,some ti=>match intsOf cs with
     |some (kd,ns)=>match takeV E t ((List.range ti.size).map fun m=>SV.int kd (ns.getD (k*sz+(j+m)) 0))with
      |some v=>some {v,wr:=none,nw:=none,ob:=[k*sz+(j+ti.size)≤ns.length],rd:=[i]}
      |none=>none
     |none=>none
    |_,_=>none
  |_=>none
 | .aptr i o len k=>match h[i]? with
  |some (some ob)=>match ob.list with
   |some cs=>match E.ty t with
    |some ti=>if aggB ti.desc then none else match intsOf ((cs.drop o).take len)with
     |some (kd,ns)=>if ns.length=len then some {v:= .int kd (ns.getD k 0),wr:=none,nw:=none,ob:=[k<len],rd:=[i]}else none
     |none=>match takeV E t (cs.drop (o+k))with
      |some v=>some {v,wr:=none,nw:=none,ob:=[k<len],rd:=[i]}
      |none=>none
    |none=>none
   |none=>none
  |_=>none
 | .rptr j k m=>match h[j]? with
  |some (some (.pool _ n len get))=>match E.ty t with
   |some ti=>if aggB ti.desc then none else some {v:= .int .i64 (get k m),wr:=none,nw:=none,ob:=[k<n,m<len k],rd:=[j]}
   |none=>none
  |_=>none
 | .pnil=>match E.ty t with
  |some ti=>some {v:=ti.zero,wr:=none,nw:=none,ob:=[False],rd:=[]}
  |none=>none
 |_=>none
theorem evLoad_ok{E:Env}{P:Program}(hE:E.ok P){t:Nat}{x:SV}{h:SHeap}{r:Res}(he:evLoad E t x h=some r)(hob: ∀p∈r.ob,p)
  {η:Nam} {φ:Feet} {w0 w:World} {Ef:Nat→Prop} (s:Sat η φ h w0 Ef w) {xv:Value} (hx:den η x=some xv):
  (r.wr=none∧r.nw=none)∧ ∃v,den η r.v=some v∧(Instr.loadAt t xv).run P w= .ok v w:=by
 unfold evLoad at he
 split at he
 ·rename_i i o
  split at he
  ·rename_i ob hi
   split at he
   ·rename_i cs hcs
    split at he
    ·rename_i v hv
     cases he
     refine⟨⟨rfl,rfl⟩,?_⟩
     simp only[den,Option.map_eq_some_iff]at hx
     obtain⟨a,ha,rfl⟩:=hx
     obtain⟨vs,hd,hc⟩:=SObj.list_ok hcs (s.holds i ob a hi ha)
     obtain⟨v',h1,h2⟩:=takeV_ok hE hv (denL_drop o hd) (w:=w) (a:=⟨a.1,a.2+o,none⟩) (fun j u hj=>by
      rw[addr_add]
      rw[List.getElem?_drop]at hj
      have:=hc (o+j) u hj
      rw[Nat.add_assoc];exact this)
     exact⟨v',h1,by simp[Instr.loadAt,Instr.sureAddr,h2]⟩
    ·cases he
   ·cases he
  ·cases he
 ·rename_i i sz k j
  split at he
  ·rename_i ob hi
   split at he
   ·rename_i sz' n get hel
    split at he
    ·rename_i hsz
     subst hsz
     split at he
     ·rename_i v hv
      cases he
      refine⟨⟨rfl,rfl⟩,?_⟩
      have hk:k<n:=hob _ (by simp)
      simp only[den,Option.map_eq_some_iff]at hx
      obtain⟨a,ha,rfl⟩:=hx
      obtain⟨vs,hd,hl,hc⟩:=SObj.elems_ok hel (s.holds i ob a hi ha) k hk
      obtain⟨v',h1,h2⟩:=takeV_ok hE hv (denL_drop j hd) (w:=w) (a:=⟨a.1,a.2+(k*sz+j),none⟩) (fun m u hm=>by
       rw[addr_add]
       rw[List.getElem?_drop]at hm
       have:=hc (j+m) u hm
       rw[show a.2+(k*sz+j)+m=a.2+(k*sz+(j+m))by omega];exact this)
      exact⟨v',h1,by simp[Instr.loadAt,Instr.sureAddr,h2]⟩
     ·cases he
    ·cases he
   ·split at he
    ·rename_i cs ti hcs ht
     split at he
     ·rename_i kd ns hns
      split at he
      ·rename_i v hv
       cases he
       refine⟨⟨rfl,rfl⟩,?_⟩
       have hk:k*sz+(j+ti.size)≤ns.length:=hob _ (by simp)
       simp only[den,Option.map_eq_some_iff]at hx
       obtain⟨a,ha,rfl⟩:=hx
       obtain⟨vs,hd,hc⟩:=SObj.list_ok hcs (s.holds i ob a hi ha)
       rw[intsOf_ok hns,denL_ints]at hd
       have hd2:denL η ((List.range ti.size).map fun m=>SV.int kd (ns.getD (k*sz+(j+m)) 0))=some ((List.range ti.size).map fun m=>Value.int kd (ns.getD (k*sz+(j+m)) 0)):=by
        have:=denL_ints (η:=η) kd ((List.range ti.size).map fun m=>ns.getD (k*sz+(j+m)) 0)
        rw[List.map_map,List.map_map]at this
        exact this
       obtain⟨v',h1,h2⟩:=takeV_ok hE hv hd2 (w:=w) (a:=⟨a.1,a.2+(k*sz+j),none⟩) (fun m u hm=>by
        rw[addr_add]
        rw[List.getElem?_map]at hm
        have hml:m<ti.size:=by
         rcases Nat.lt_or_ge m ti.size with c|c
         ·exact c
         ·rw[List.getElem?_eq_none (by simpa using c)]at hm
          cases hm
        rw[List.getElem?_range hml]at hm
        simp only[Option.map_some,Option.some.injEq]at hm
        have hg:vs[k*sz+(j+m)]?=some u:=by
         rw[←Option.some.inj hd,List.getElem?_map,List.getElem?_eq_getElem (show k*sz+(j+m)<ns.length by omega)]
         rw[←hm,List.getD_eq_getElem?_getD,List.getElem?_eq_getElem (show k*sz+(j+m)<ns.length by omega)]
         rfl
        have:=hc _ u hg
        rw[show a.2+(k*sz+j)+m=a.2+(k*sz+(j+m))by omega];exact this)
       exact⟨v',h1,by simp[Instr.loadAt,Instr.sureAddr,h2]⟩
      ·cases he
     ·cases he
    ·cases he
  ·cases he
 ·rename_i i o len k
  split at he
  ·rename_i ob hi
   split at he
   ·rename_i cs hcs
    split at he
    ·rename_i ti ht
     split at he
     ·cases he
     ·rename_i hag
      split at he
      ·rename_i kd ns hns
       split at he
       ·rename_i hlen
        cases he
        refine⟨⟨rfl,rfl⟩,?_⟩
        have hk:k<len:=hob _ (by simp)
        simp only[den,Option.map_eq_some_iff]at hx
        obtain⟨a,ha,rfl⟩:=hx
        obtain⟨vs,hd,hc⟩:=SObj.list_ok hcs (s.holds i ob a hi ha)
        have hd':=denL_take len (denL_drop o hd)
        rw[intsOf_ok hns,denL_ints]at hd'
        have hg:((vs.drop o).take len)[k]?=some (.int kd (ns.getD k 0)):=by
         rw[←Option.some.inj hd']
         simp only[List.getElem?_map]
         rw[List.getElem?_eq_getElem (by omega)]
         simp[List.getD,List.getElem?_eq_getElem (show k<ns.length by omega)]
        rw[List.getElem?_take,if_pos hk,List.getElem?_drop]at hg
        have:=hc (o+k) _ hg
        have ok:=hE.ty t ti ht
        have hag:aggB ti.desc=false:=by simpa using hag
        exact⟨_,rfl,by simp[Instr.loadAt,Instr.sureAddr,loadVar,ok.isAgg,hag,this]⟩
       ·cases he
      ·split at he
       ·rename_i v hv
        cases he
        refine⟨⟨rfl,rfl⟩,?_⟩
        simp only[den,Option.map_eq_some_iff]at hx
        obtain⟨a,ha,rfl⟩:=hx
        obtain⟨vs,hd,hc⟩:=SObj.list_ok hcs (s.holds i ob a hi ha)
        obtain⟨v',h1,h2⟩:=takeV_ok hE hv (denL_drop (o+k) hd) (w:=w) (a:=⟨a.1,a.2+(o+k),none⟩) (fun j u hj=>by
         rw[addr_add]
         rw[List.getElem?_drop]at hj
         have:=hc (o+k+j) u hj
         rw[show a.2+(o+k)+j=a.2+(o+k+j)by omega];exact this)
        exact⟨v',h1,by simp[Instr.loadAt,Instr.sureAddr,h2]⟩
       ·cases he
    ·cases he
   ·cases he
  ·cases he
 ·rename_i j k m
  split at he
  ·rename_i own n len get hj
   split at he
   ·rename_i ti ht
    split at he
    ·cases he
    ·rename_i hag
     cases he
     refine⟨⟨rfl,rfl⟩,?_⟩
     have hk:k<n:=hob _ (by simp)
     have hm:m<len k:=hob _ (by simp)
     simp only[den,Option.map_eq_some_iff]at hx
     obtain⟨a,ha,rfl⟩:=hx
     have ok:=hE.ty t ti ht
     have hag:aggB ti.desc=false:=by simpa using hag
     rcases s.holds j _ a hj ha k hk with⟨_,h0⟩|⟨b,T,c,h1,h3,h4⟩
     ·omega
     ·exact⟨_,rfl,by simp[Instr.loadAt,Instr.sureAddr,loadVar,ok.isAgg,hag,World.cell?,h1,h3,h4 m hm]⟩
   ·cases he
  ·cases he
 ·split at he
  ·cases he
   exact(hob False (by simp)).elim
  ·cases he
 ·cases he
def InR:IntKind→Int→Prop
 | .i8,n=> -128≤n∧n≤127
 | .i16,n=> -32768≤n∧n≤32767
 | .i32,n=> -2147483648≤n∧n≤2147483647
 | .i64,n=> -9223372036854775808≤n∧n≤9223372036854775807
 | .u8,n=>0≤n∧n≤255
 | .u16,n=>0≤n∧n≤65535
 | .u32,n=>0≤n∧n≤4294967295
 | .u64,n=>0≤n∧n≤18446744073709551615
theorem wrap_in{k:IntKind}{n:Int}(h:InR k n):k.wrap n=n:=by
 cases k
 ·exact IntWalk.i8_in n h
 ·exact IntWalk.i16_in n h
 ·exact IntWalk.i32_in n h
 ·exact IntWalk.i64_in n h
 ·exact IntWalk.u8_in n h
 ·exact IntWalk.u16_in n h
 ·exact IntWalk.u32_in n h
 ·exact IntWalk.u64_in n h
def numR(wr:Bool)(k:IntKind)(n:Int)(ob:List Prop):Option Res:=
 match wr with
 |true=>pureR (.int k (k.wrap n)) ob
 |false=>pureR (.int k n) (InR k n::ob)
def bitOp(op:BinOp)(k:IntKind)(x y:Int):Int:=
 let a:=BitVec.ofInt k.bits x
 let b:=BitVec.ofInt k.bits y
 match op with
 | .and=>k.wrap (a&&&b).toNat
 | .or=>k.wrap (a|||b).toNat
 | .xor=>k.wrap (a^^^b).toNat
 |_=>k.wrap (a&&& ~~~b).toNat
def binInt(wr:Bool)(op:BinOp)(k:IntKind)(x y:Int):Option Res:=
 match op with
 | .add=>numR wr k (x+y) []
 | .sub=>numR wr k (x-y) []
 | .mul=>numR wr k (x*y) []
 | .quo=>numR wr k (x.tdiv y) [y≠0]
 | .rem=>pureR (.int k (x.tmod y)) [y≠0]
 | .and=>pureR (.int k (bitOp .and k x y))
 | .or=>pureR (.int k (bitOp .or k x y))
 | .xor=>pureR (.int k (bitOp .xor k x y))
 | .andNot=>pureR (.int k (bitOp .andNot k x y))
 | .eql=>pureR (.bool (decide (x=y)))
 | .neq=>pureR (.bool (!decide (x=y)))
 | .lss=>pureR (.bool (decide (x<y)))
 | .leq=>pureR (.bool (decide (x≤y)))
 | .gtr=>pureR (.bool (decide (x>y)))
 | .geq=>pureR (.bool (decide (x≥y)))
 |_=>none
def evBinI(wr:Bool)(op:BinOp)(k:IntKind)(a:Int)(k':IntKind)(b:Int):Option Res:=
 match op with
 | .shl=>numR wr k (a*2^b.toNat) [0≤b,b<(k.bits:Int)]
 | .shr=>pureR (.int k (a.fdiv (2^b.toNat))) [0≤b,b<(k.bits:Int)]
 |op=>if k=k' then binInt wr op k a b else none
def evBin(E:Env)(op:BinOp)(t:Nat)(x y:SV):Option Res:=
 match x,y with
 | .int k a,.int k' b=>evBinI E.wrap op k a k' b
 | .bool a,.bool b=>match E.ty t with
  |some ti=>match ti.desc with
   | .bool=>match op with
    | .eql=>pureR (.bool (a==b))
    | .neq=>pureR (.bool (!(a==b)))
    |_=>none
   |_=>none
  |none=>none
 | .iface _ _,.inil=>match E.ty t with
  |some ti=>match ti.desc with
   | .interface _=>match op with
    | .eql=>pureR (.bool false)
    | .neq=>pureR (.bool true)
    |_=>none
   |_=>none
  |none=>none
 | .inil,.inil=>match E.ty t with
  |some ti=>match ti.desc with
   | .interface ms=>match ms.size with
    |0=>match op with
     | .eql=>pureR (.bool true)
     | .neq=>pureR (.bool false)
     |_=>none
    |_+1=>none
   |_=>none
  |none=>none
 | .agg cs,.agg cs'=>match E.eqs t,intsOf cs,intsOf cs' with
  |some n,some (.i64,xs),some (.i64,ys)=>if xs.length=n then if ys.length=n then match op with
    | .eql=>pureR (.bool (decide (xs=ys)))
    | .neq=>pureR (.bool (!(decide (xs=ys))))
    |_=>none
   else none else none
  |_,_,_=>match E.eqb t,boolsOf cs,boolsOf cs' with
   |some n,some xs,some ys=>if xs.length=n then if ys.length=n then match op with
     | .eql=>pureR (.bool (decide (xs=ys)))
     | .neq=>pureR (.bool (!(decide (xs=ys))))
     |_=>none
    else none else none
   |_,_,_=>none
 |_,_=>none
section nums
variable {P:Program} {w:World}
theorem run_binInt{wr:Bool}{op:BinOp}{k:IntKind}{x y:Int}{r:Res}(h:binInt wr op k x y=some r)(ho: ∀p∈r.ob,p)(t:Nat):
  (r.wr=none∧r.nw=none)∧ ∃v,(∀η,den η r.v=some v)∧(binOp op t (.int k x) (.int k y)).run P w= .ok v w:=by
 cases op<;>simp only[binInt,reduceCtorEq]at h;case add|sub|mul=>
  cases wr<;>simp only[numR,pureR,Option.some.injEq]at h<;>subst h
  ·refine⟨⟨rfl,rfl⟩,_,fun η=>rfl,?_⟩;have h1:=ho _ (List.mem_cons_self ..);simp[binOp,Op.intArith,wrap_in h1]
  ·exact⟨⟨rfl,rfl⟩,_,fun η=>rfl,by simp[binOp,Op.intArith]⟩
 case quo=>
  cases wr<;>simp only[numR,pureR,Option.some.injEq]at h<;>subst h
  ·have h1:InR k (x.tdiv y):=ho _ (by simp);have h2:y≠0:=ho _ (by simp);exact⟨⟨rfl,rfl⟩,_,fun η=>rfl,by simp[binOp,Op.intDiv,h2,wrap_in h1]⟩
  ·have h2:y≠0:=ho _ (by simp);exact⟨⟨rfl,rfl⟩,_,fun η=>rfl,by simp[binOp,Op.intDiv,h2]⟩
 case rem=>
  simp only[pureR,Option.some.injEq]at h;subst h;have h2:y≠0:=ho _ (by simp);exact⟨⟨rfl,rfl⟩,_,fun η=>rfl,by simp[binOp,Op.intDiv,h2]⟩
 case and|or|xor|andNot=>
  simp only[pureR,Option.some.injEq]at h;subst h;exact⟨⟨rfl,rfl⟩,_,fun η=>rfl,by simp[binOp,Op.intBits,bitOp]⟩
 case eql|neq|lss|leq|gtr|geq=>
  simp only[pureR,Option.some.injEq]at h;subst h;refine⟨⟨rfl,rfl⟩,_,fun η=>rfl,?_⟩;simp[binOp,Op.intCmp];try rfl
end nums
theorem run_eqGuard_other{P:Program}{w:World}(op:BinOp)(t:Nat)(x y:Operand)(a b:Value)(h1: ¬(a= .nilIface∧b= .nilIface))(h2: ∀l m,¬(a= .agg l∧b= .agg m)):
  (eqGuard op t x y a b).run P w= .ok () w:=by
 unfold eqGuard;cases op<;>simp<;>(split<;>simp_all)
theorem evBinI_ok{P:Program}{wr:Bool}{op:BinOp}{k k':IntKind}{n m:Int}{r:Res}(h:evBinI wr op k n k' m=some r)(ho: ∀p∈r.ob,p)(t:Nat)(w:World):
  (r.wr=none∧r.nw=none)∧ ∃v,(∀η,den η r.v=some v)∧(binOp op t (.int k n) (.int k' m)).run P w= .ok v w:=by
 unfold evBinI at h;split at h
 ·cases wr<;>simp only[numR,pureR,Option.some.injEq]at h<;>subst h
  ·have h0:InR k (n*2^m.toNat):=ho _ (by simp);have h1:0≤m:=ho _ (by simp);have h2:m<(k.bits:Int):=ho _ (by simp);exact⟨⟨rfl,rfl⟩,_,fun _=>rfl,by simp[binOp,Op.shift,show¬m<0 by omega,Nat.min_eq_left (show m.toNat≤k.bits by omega),wrap_in h0]⟩
  ·have h1:0≤m:=ho _ (by simp);have h2:m<(k.bits:Int):=ho _ (by simp);exact⟨⟨rfl,rfl⟩,_,fun _=>rfl,by simp[binOp,Op.shift,show¬m<0 by omega,Nat.min_eq_left (show m.toNat≤k.bits by omega)]⟩
 ·simp only[pureR,Option.some.injEq]at h;subst h;have h1:0≤m:=ho _ (by simp);have h2:m<(k.bits:Int):=ho _ (by simp);exact⟨⟨rfl,rfl⟩,_,fun _=>rfl,by simp[binOp,Op.shift,show¬m<0 by omega,Nat.min_eq_left (show m.toNat≤k.bits by omega)]⟩
 ·split at h
  ·rename_i hk;subst hk;exact run_binInt h ho t
  ·cases h
theorem run_equal_bool{P:Program}{w:World}{t:Nat}(hu:(underlying t).run P w= .ok .bool w)(a b:Bool):(Op.equal t (.bool a) (.bool b)).run P w= .ok (a==b) w:=by
 have key: ∀d,(Op.equalIn (d+1) t (.bool a) (.bool b)).run P w= .ok (a==b) w:=fun d=>by
  simp only[Op.equalIn,Sem.run_bind,hu,Result.andThen_ok,Sem.run_pure]
 exact key 9999
theorem run_equal_iface_nil{P:Program}{w:World}{t:Nat}{ms:Array (String×TypeId)}(hu:(underlying t).run P w= .ok (.interface ms) w)(u:TypeId)(a:Value):(Op.equal t (.iface u a) .nilIface).run P w= .ok false w:=by
 have key: ∀d,(Op.equalIn (d+1) t (.iface u a) .nilIface).run P w= .ok false w:=fun d=>by
  simp only[Op.equalIn,Sem.run_bind,hu,Result.andThen_ok,Sem.run_pure]
 exact key 9999
theorem run_equal_nil_nil{P:Program}{w:World}{t:Nat}{ms:Array (String×TypeId)}(hu:(underlying t).run P w= .ok (.interface ms) w):(Op.equal t .nilIface .nilIface).run P w= .ok true w:=by
 have key: ∀d,(Op.equalIn (d+1) t .nilIface .nilIface).run P w= .ok true w:=fun d=>by
  simp only[Op.equalIn,Sem.run_bind,hu,Result.andThen_ok,Sem.run_pure]
 exact key 9999
theorem run_eqGuard_nil{P:Program}{w:World}{op:BinOp}{t:Nat}{ms:Array (String×TypeId)}(hu:(underlying t).run P w= .ok (.interface ms) w)(hm:ms.size=0)(x y:Operand):(eqGuard op t x y .nilIface .nilIface).run P w= .ok () w:=by
 have key: ∀d,(Op.eqGuardIn (d+1) t .nilIface .nilIface).run P w= .ok false w:=fun d=>by
  simp only[Op.eqGuardIn,Sem.run_bind,hu,Result.andThen_ok,Sem.run_pure];simp[Array.isEmpty,hm]
 have key':(Op.eqGuardIn Op.maxDepth t .nilIface .nilIface).run P w= .ok false w:=key 9999;unfold eqGuard;by_cases hop:(!(match op with| .eql=>true| .neq=>true|_=>false))=true
 ·cases op<;>simp at hop⊢
 ·by_cases hc:((match x with|Operand.const _=>true|_=>false)||(match y with|Operand.const _=>true|_=>false))=true
  ·cases op<;>simp_all
  ·cases op<;>simp_all[Sem.run_bind,Result.andThen_ok]
theorem evBin_ok{E:Env}{P:Program}(hE:E.ok P){op:BinOp}{t:Nat}{x y:SV}{r:Res}(h:evBin E op t x y=some r)(ho: ∀p∈r.ob,p){η:Nam}{a b:Value}(ha:den η x=some a)(hb:den η y=some b)
  (x0 y0:Operand) (w:World):(r.wr=none∧r.nw=none)∧ ∃v,den η r.v=some v∧(do eqGuard op t x0 y0 a b;binOp op t a b:Sem Value).run P w= .ok v w:=by
 unfold evBin at h;split at h
 ·rename_i k n k' m;simp only[den,Option.some.injEq]at ha hb;subst ha hb;obtain⟨h1,v,h2,h3⟩:=evBinI_ok (P:=P) h ho t w;refine⟨h1,v,h2 η,?_⟩;rw[Sem.run_bind,run_eqGuard_other op t x0 y0 (.int k n) (.int k' m) (by simp) (by simp)];exact h3
 ·rename_i p q;simp only[den,Option.some.injEq]at ha hb;subst ha hb;split at h
  ·rename_i ti ht;split at h
   ·rename_i hd;have hu:=(hE.ty t ti ht).underlying (w:=w);rw[hd]at hu;have he:=run_equal_bool hu p q;split at h
    ·simp only[pureR,Option.some.injEq]at h;subst h;refine⟨⟨rfl,rfl⟩,_,rfl,?_⟩;rw[Sem.run_bind,run_eqGuard_other .eql t x0 y0 (.bool p) (.bool q) (by simp) (by simp)];simp only[Result.andThen_ok,binOp,Sem.run_bind,he,Sem.run_pure]
    ·simp only[pureR,Option.some.injEq]at h;subst h;refine⟨⟨rfl,rfl⟩,_,rfl,?_⟩;rw[Sem.run_bind,run_eqGuard_other .neq t x0 y0 (.bool p) (.bool q) (by simp) (by simp)];simp only[Result.andThen_ok,binOp,Sem.run_bind,he,Sem.run_pure]
    ·cases h
   ·cases h
  ·cases h
 ·rename_i u p;simp only[den,Option.some.injEq,Option.map_eq_some_iff]at ha hb;subst hb;obtain⟨c,_,rfl⟩:=ha;split at h
  ·rename_i ti ht;split at h
   ·rename_i ms hd;have hu:=(hE.ty t ti ht).underlying (w:=w);rw[hd]at hu;have he:=run_equal_iface_nil hu u c;split at h
    ·simp only[pureR,Option.some.injEq]at h;subst h;refine⟨⟨rfl,rfl⟩,_,rfl,?_⟩;rw[Sem.run_bind,run_eqGuard_other .eql t x0 y0 (.iface u c) .nilIface (by simp) (by simp)];simp only[Result.andThen_ok,binOp,Sem.run_bind,he,Sem.run_pure]
    ·simp only[pureR,Option.some.injEq]at h;subst h;refine⟨⟨rfl,rfl⟩,_,rfl,?_⟩;rw[Sem.run_bind,run_eqGuard_other .neq t x0 y0 (.iface u c) .nilIface (by simp) (by simp)];simp only[Result.andThen_ok,binOp,Sem.run_bind,he,Sem.run_pure];rfl
    ·cases h
   ·cases h
  ·cases h
 ·simp only[den,Option.some.injEq]at ha hb;subst ha hb;split at h
  ·rename_i ti ht;split at h
   ·rename_i ms hd;have hu:=(hE.ty t ti ht).underlying (w:=w);rw[hd]at hu;have he:=run_equal_nil_nil hu;split at h
    ·rename_i hm;split at h
     ·simp only[pureR,Option.some.injEq]at h;subst h;refine⟨⟨rfl,rfl⟩,_,rfl,?_⟩;rw[Sem.run_bind,run_eqGuard_nil hu hm];simp only[Result.andThen_ok,binOp,Sem.run_bind,he,Sem.run_pure]
     ·simp only[pureR,Option.some.injEq]at h;subst h;refine⟨⟨rfl,rfl⟩,_,rfl,?_⟩;rw[Sem.run_bind,run_eqGuard_nil hu hm];simp only[Result.andThen_ok,binOp,Sem.run_bind,he,Sem.run_pure];rfl
     ·cases h
    ·cases h
   ·cases h
  ·cases h
 ·rename_i cs cs';split at h
  ·rename_i n xs ys hn hxs hys;simp only[den,Option.map_eq_some_iff]at ha hb;obtain⟨us,hus,rfl⟩:=ha;obtain⟨vs,hvs,rfl⟩:=hb;rw[intsOf_ok hxs,denL_ints]at hus;rw[intsOf_ok hys,denL_ints]at hvs;cases hus;cases hvs;obtain⟨e1,e2⟩:=hE.eqs t n hn;split at h
   ·rename_i hl;split at h
    ·rename_i hl';have he:=e1 xs ys w hl hl';have hgd:=fun op=>e2 op x0 y0 xs ys w
     simp only[intsV]at he hgd;split at h
     ·simp only[pureR,Option.some.injEq]at h;subst h;refine⟨⟨rfl,rfl⟩,_,rfl,?_⟩;rw[Sem.run_bind,hgd];simp only[Result.andThen_ok,binOp,Sem.run_bind,he,Sem.run_pure]
     ·simp only[pureR,Option.some.injEq]at h;subst h;refine⟨⟨rfl,rfl⟩,_,rfl,?_⟩;rw[Sem.run_bind,hgd];simp only[Result.andThen_ok,binOp,Sem.run_bind,he,Sem.run_pure]
     ·cases h
    ·cases h
   ·cases h
  ·split at h
   ·rename_i n xs ys hn hxs hys;simp only[den,Option.map_eq_some_iff]at ha hb;obtain⟨us,hus,rfl⟩:=ha;obtain⟨vs,hvs,rfl⟩:=hb;rw[boolsOf_ok hxs,denL_bools]at hus;rw[boolsOf_ok hys,denL_bools]at hvs;cases hus;cases hvs;obtain⟨e1,e2⟩:=hE.eqb t n hn;split at h
    ·rename_i hl;split at h
     ·rename_i hl';have he:=e1 xs ys w hl hl';have hgd:=fun op=>e2 op x0 y0 xs ys w
      simp only[boolsV]at he hgd;split at h
      ·simp only[pureR,Option.some.injEq]at h;subst h;refine⟨⟨rfl,rfl⟩,_,rfl,?_⟩;rw[Sem.run_bind,hgd];simp only[Result.andThen_ok,binOp,Sem.run_bind,he,Sem.run_pure]
      ·simp only[pureR,Option.some.injEq]at h;subst h;refine⟨⟨rfl,rfl⟩,_,rfl,?_⟩;rw[Sem.run_bind,hgd];simp only[Result.andThen_ok,binOp,Sem.run_bind,he,Sem.run_pure]
      ·cases h
     ·cases h
    ·cases h
   ·cases h
 ·cases h
def evUn(op:UnOp)(wr:Bool)(x:SV):Option Res:=
 match op,x with
 | .not,.bool b=>pureR (.bool (!b))
 | .neg,.int k n=>numR wr k (0-n) []
 | .xor,.int k n=>pureR (.int k (bitOp .xor k (if k.signed then-1 else k.max) n))
 |_,_=>none
theorem evUn_ok{P:Program}{op:UnOp}{wr:Bool}{x:SV}{r:Res}(h:evUn op wr x=some r)(ho: ∀p∈r.ob,p){η:Nam}{a:Value}(ha:den η x=some a)(w:World):
  (r.wr=none∧r.nw=none)∧ ∃v,den η r.v=some v∧(Op.unary op a).run P w= .ok v w:=by
 unfold evUn at h;split at h
 ·simp only[den,Option.some.injEq]at ha;subst ha;simp only[pureR,Option.some.injEq]at h;subst h;exact⟨⟨rfl,rfl⟩,_,rfl,rfl⟩
 ·simp only[den,Option.some.injEq]at ha;subst ha;cases wr<;>simp only[numR,pureR,Option.some.injEq]at h<;>subst h
  ·have h1:=ho _ (List.mem_cons_self ..);exact⟨⟨rfl,rfl⟩,_,rfl,by simp only[Op.unary,Op.intArith,Sem.run_pure,wrap_in h1]⟩
  ·exact⟨⟨rfl,rfl⟩,_,rfl,by simp only[Op.unary,Op.intArith,Sem.run_pure]⟩
 ·simp only[den,Option.some.injEq]at ha;subst ha;simp only[pureR,Option.some.injEq]at h;subst h;exact⟨⟨rfl,rfl⟩,_,rfl,by simp[Op.unary,Op.intBits,bitOp]⟩
 ·cases h
def evConv(E:Env)(src dst:Nat)(x:SV):Option Res:=
 match E.ty src,E.ty dst,x with
 |some _,some td,.int _ n=>match td.desc with
  | .int k=>numR E.wrap k n []
  |_=>none
 |_,_,_=>none
theorem evConv_ok{E:Env}{P:Program}(hE:E.ok P){src dst:Nat}{x:SV}{r:Res}(h:evConv E src dst x=some r)(ho: ∀p∈r.ob,p){η:Nam}{a:Value}(ha:den η x=some a)(w:World):
  (r.wr=none∧r.nw=none)∧ ∃v,den η r.v=some v∧(convert src dst a).run P w= .ok v w:=by
 unfold evConv at h;split at h
 ·rename_i ts td _ kk n hs hd;simp only[den,Option.some.injEq]at ha;subst ha;split at h
  ·rename_i k hk;have h1:=(hE.ty _ _ hs).underlying (w:=w);have h2:=(hE.ty _ _ hd).underlying (w:=w);rw[hk]at h2;cases hw:E.wrap<;>rw[hw]at h<;>simp only[numR,pureR,Option.some.injEq]at h<;>subst h
   ·have h3:=ho _ (List.mem_cons_self ..);exact⟨⟨rfl,rfl⟩,_,rfl,by simp[convert,h1,h2,Conv.intToInt,wrap_in h3]⟩
   ·exact⟨⟨rfl,rfl⟩,_,rfl,by simp[convert,h1,h2,Conv.intToInt]⟩
  ·cases h
 ·cases h
/-! ### Addresses and pieces of values -/
def evField(E:Env)(t:Nat)(x:SV)(f:Nat):Option Res:=
 match E.ty t,x with
 |some ti,.agg cs=>match ti.desc with
  | .struct fs=>match fs[f]? with
   |some fd=>match takeV E fd.type (cs.drop fd.offset)with
    |some v=>pureR v
    |none=>none
   |none=>none
  |_=>none
 |_,_=>none
def evFieldAddr(E:Env)(t:Nat)(x:SV)(f:Nat):Option Res:=
 match E.ty t with
 |some ti=>match ti.desc with
  | .struct fs=>match fs[f]? with
   |some fd=>match E.ty fd.type with
    |some tf=>if tf.size=0 then none else match x with
     | .ptr i o=>pureR (.ptr i (o+fd.offset))
     | .eptr i sz k j=>pureR (.eptr i sz k (j+fd.offset))
     | .pnil=>pureR .pnil [False]
     |_=>none
    |none=>none
   |none=>none
  |_=>none
 |none=>none
theorem evFieldAddr_ok{E:Env}{P:Program}(hE:E.ok P){t f:Nat}{x:SV}{r:Res}(h:evFieldAddr E t x f=some r)(ho: ∀p∈r.ob,p){η:Nam}{a:Value}(ha:den η x=some a)(w:World):
  (r.wr=none∧r.nw=none)∧ ∃v,den η r.v=some v∧(Instr.fieldAt t a f).run P w= .ok v w:=by
 unfold evFieldAddr at h;split at h
 ·rename_i ti ht;split at h
  ·rename_i fs hfs;split at h
   ·rename_i fd hfd;split at h
    ·rename_i tf htf;have h1:=(hE.ty _ _ ht).underlying (w:=w);rw[hfs]at h1;have h2:=(hE.ty _ _ htf).sizeOf (w:=w);split at h
     ·cases h
     ·rename_i hsz;split at h
      ·rename_i i o;simp only[pureR,Option.some.injEq]at h;subst h;simp only[den,Option.map_eq_some_iff]at ha;obtain⟨b,hb,rfl⟩:=ha;exact⟨⟨rfl,rfl⟩,.pointer (some ⟨b.1,b.2+(o+fd.offset),none⟩),by simp[den,hb],by simp[Instr.fieldAt,h1,hfd,Instr.sureAddr,fieldPlace,h2,hsz,addr_add,Nat.add_assoc]⟩
      ·rename_i i sz k j;simp only[pureR,Option.some.injEq]at h;subst h;simp only[den,Option.map_eq_some_iff]at ha;obtain⟨b,hb,rfl⟩:=ha;exact⟨⟨rfl,rfl⟩,.pointer (some ⟨b.1,b.2+(k*sz+(j+fd.offset)),none⟩),by simp[den,hb],by simp[Instr.fieldAt,h1,hfd,Instr.sureAddr,fieldPlace,h2,hsz,addr_add,Nat.add_assoc]⟩
      ·simp only[pureR,Option.some.injEq]at h;subst h;exact(ho False (by simp)).elim
      ·cases h
    ·cases h
   ·cases h
  ·cases h
 ·cases h
theorem part_ok{E:Env}{P:Program}(hE:E.ok P){t:Nat}{cs:List SV}{off:Nat}{r:SV}(h:takeV E t (cs.drop off)=some r){η:Nam}{vs:List Value}(hd:denL η cs=some vs)(w:World):
  ∃v,den η r=some v∧(part t vs.toArray off).run P w= .ok v w:=by
 unfold takeV at h;cases ht:E.ty t with
 |none=>simp[ht]at h
 |some ti=>
  simp only[ht]at h;have ok:=hE.ty t ti ht;by_cases hag:aggB ti.desc=true
  ·simp only[hag,if_true]at h;split at h
   ·rename_i hlen;cases h;have hl:=denL_length hd;refine⟨.agg ((vs.drop off).take ti.size).toArray,by simp[den,denL_take ti.size (denL_drop off hd)],?_⟩;simp only[part,Sem.run_bind,ok.isAgg,hag,Result.andThen_ok,if_true,ok.sizeOf,Sem.run_pure];congr 2;simp at hlen;apply Array.ext';simp[List.take_drop]
   ·cases h
  ·have hag:aggB ti.desc=false:=by simpa using hag
   simp only[hag,Bool.false_eq_true,if_false]at h;have hg:cs[off]?=some r:=by rw[←h,List.head?_drop]
   obtain⟨v,h1,h2⟩:=denL_get hd hg;exact⟨v,h1,by simp[part,ok.isAgg,hag,h2]⟩
theorem evField_ok{E:Env}{P:Program}(hE:E.ok P){t f:Nat}{x:SV}{r:Res}(h:evField E t x f=some r){η:Nam}{a:Value}(ha:den η x=some a)(w:World):
  (r.wr=none∧r.nw=none)∧ ∃v,den η r.v=some v∧(Instr.field t a f).run P w= .ok v w:=by
 unfold evField at h;split at h
 ·rename_i ti _ cs ht;split at h
  ·rename_i fs hfs;split at h
   ·rename_i fd hfd;split at h
    ·rename_i v hv;simp only[pureR,Option.some.injEq]at h;subst h;simp only[den,Option.map_eq_some_iff]at ha;obtain⟨vs,hd,rfl⟩:=ha;have h1:=(hE.ty _ _ ht).underlying (w:=w);rw[hfs]at h1;obtain⟨v',h2,h3⟩:=part_ok hE hv hd w;exact⟨⟨rfl,rfl⟩,v',h2,by simp[Instr.field,h1,hfd,asAgg,h3]⟩
    ·cases h
   ·cases h
  ·cases h
 ·cases h
def evIndexAddr(E:Env)(t:Nat)(x ix:SV):Option Res:=
 match E.ty t,ix with
 |some ti,.int _ n=>match ti.desc with
  | .slice e=>match E.ty e with
   |some te=>match x with
    | .slice i sz eo len _=>if sz=te.size then pureR (.eptr i sz (eo+n.toNat) 0) [0≤n,n<(len:Int)]else none
    | .asl i o al l len=>if te.size=1 then pureR (.aptr i o al (l+n.toNat)) [0≤n,n<(len:Int)]else none
    | .osl _ i sz len _=>if sz=te.size then pureR (.eptr i sz (0+n.toNat) 0) [0≤n,n<(len:Int)]else none
    | .row j k len _=>if te.size=1 then pureR (.rptr j k (0+n.toNat)) [0≤n,n<(len:Int)]else none
    | .snil=>pureR .pnil [False]
    |_=>none
   |none=>none
  | .array len e=>match E.ty e,x with
   |some te,.ptr i o=>if te.size=1 then pureR (.aptr i o len n.toNat) [0≤n,n<(len:Int)]else pureR (.eptr i te.size n.toNat o) [0≤n,n<(len:Int)]
   |_,_=>none
  |_=>none
 |_,_=>none
end Go.Sy
