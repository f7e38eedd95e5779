/-
  Parts: Sy0, SyM.
-/
import Derived.Test.YthnhlkflkidemaaGreatDoorB2
import Derived.OrdersIn
import Derived.RangeFuncIn
import Derived.Laws.World
import Derived.Laws.Cells
import Derived.MapKept
set_option linter.unusedVariables false
set_option linter.unusedSimpArgs false
/-
 Sy0: symbolic values and symbolic blocks, what they denote, and what it means that a world realises a symbolic heap. No program is named.
-/
namespace Go.Sy
/-! ### Lists of numbers, told by one number -/
def strip:Nat→Nat→Nat×Nat
 |0,c=>(0,c/2)
 |f+1,c=>if c%2=1 then(0,c/2)else((strip f (c/2)).1+1,(strip f (c/2)).2)
def padr(c:Nat):Nat→Nat
 |0=>(strip c c).1
 |k+1=>padr (strip c c).2 k
def rowV(c len cap:Nat):Option Value:=
 match c with
 |0=>if len=0∧cap=0 then some (.slice none 0 0)else none
 |b+1=>some (.slice (some ⟨b,0,none⟩) len cap)
inductive SV where
 |bool (b:Bool)
 |int (k:IntKind) (n:Int)
 |str (s:ByteArray)
 |ptr (i o:Nat)
 |eptr (i sz k j:Nat)
 |aptr (i o len k:Nat)
 |pnil
 |slice (i sz eo len cap:Nat)
 |asl (i o al l len:Nat)
 |snil
 |map (i:Nat)
 |mnil
 |fn (f:Fn) (first cap:List SV)
 |yld (i:Nat)
 |osl (b:Bool) (i sz len cap:Nat)
 |row (j k len cap:Nat)
 |rptr (j k m:Nat)
 |fnil
 |iface (t:TypeId) (v:SV)
 |inil
 |agg (cs:List SV)
 |tup (vs:List SV)
 |val (v:Value)
 deriving Inhabited
abbrev Nam:=Nat→Option (Nat×Nat)
mutual
def den(η:Nam):SV→Option Value
 | .bool b=>some (.bool b)
 | .int k n=>some (.int k n)
 | .str s=>some (.string s)
 | .ptr i o=>(η i).map fun a=> .pointer (some ⟨a.1,a.2+o,none⟩)
 | .eptr i sz k j=>(η i).map fun a=> .pointer (some ⟨a.1,a.2+(k*sz+j),none⟩)
 | .aptr i o _ k=>(η i).map fun a=> .pointer (some ⟨a.1,a.2+(o+k),none⟩)
 | .pnil=>some (.pointer none)
 | .slice i sz eo l c=>(η i).map fun a=> .slice (some ⟨a.1,a.2+eo*sz,none⟩) l c
 | .asl i o al l len=>(η i).map fun a=> .slice (some ⟨a.1,a.2+(o+l),none⟩) len (al-l)
 | .snil=>some (.slice none 0 0)
 | .map i=>(η i).map fun a=> .map (some a.1)
 | .mnil=>some (.map none)
 | .fn f first cap=>(denL η first).bind fun a=>(denL η cap).map fun b=> .func f a.toArray b.toArray
 | .yld i=>(η i).map fun a=> .func (.yield a.1) #[] #[]
 | .osl b i _ len cap=>match b with
  |true=>(η i).map fun a=> .slice (some ⟨a.1,a.2,none⟩) len cap
  |false=>if len=0∧cap=0 then some (.slice none 0 0)else none
 | .row j k len cap=>(η j).bind fun a=>rowV (padr a.2 k) len cap
 | .rptr j k m=>(η j).map fun a=> .pointer (some ⟨padr a.2 k-1,m,none⟩)
 | .fnil=>some .nilFunc
 | .iface t v=>(den η v).map (.iface t)
 | .inil=>some .nilIface
 | .agg cs=>(denL η cs).map fun l=> .agg l.toArray
 | .tup vs=>(denL η vs).map fun l=> .tuple l.toArray
 | .val v=>some v
def denL(η:Nam):List SV→Option (List Value)
 |[]=>some []
 |x::xs=>(den η x).bind fun a=>(denL η xs).map fun as=>a::as
end
mutual
def ren(σ:Nat→Nat):SV→SV
 | .ptr i o=> .ptr (σ i) o
 | .eptr i sz k j=> .eptr (σ i) sz k j
 | .aptr i o l k=> .aptr (σ i) o l k
 | .slice i sz eo l c=> .slice (σ i) sz eo l c
 | .asl i o al l len=> .asl (σ i) o al l len
 | .map i=> .map (σ i)
 | .fn f first cap=> .fn f (renL σ first) (renL σ cap)
 | .yld i=> .yld (σ i)
 | .osl b i sz l c=> .osl b (σ i) sz l c
 | .row j k l c=> .row (σ j) k l c
 | .rptr j k m=> .rptr (σ j) k m
 | .iface t v=> .iface t (ren σ v)
 | .agg cs=> .agg (renL σ cs)
 | .tup vs=> .tup (renL σ vs)
 | .bool b=> .bool b
 | .int k n=> .int k n
 | .str s=> .str s
 | .pnil=> .pnil
 | .snil=> .snil
 | .mnil=> .mnil
 | .fnil=> .fnil
 | .inil=> .inil
 | .val v=> .val v
def renL(σ:Nat→Nat):List SV→List SV
 |[]=>[]
 |x::xs=>ren σ x::renL σ xs
end
mutual
theorem den_ren(η:Nam)(σ:Nat→Nat): ∀v:SV,den η (ren σ v)=den (fun i=>η (σ i)) v
 | .bool _| .int _ _| .str _| .pnil| .snil| .mnil| .fnil| .inil| .val _| .ptr _ _| .eptr _ _ _ _| .aptr _ _ _ _| .slice _ _ _ _ _| .asl _ _ _ _ _| .map _| .yld _| .row _ _ _ _| .rptr _ _ _=>by simp[ren,den]
 | .osl b _ _ _ _=>by cases b<;>simp[ren,den]
 | .fn f first cap=>by simp[ren,den,denL_ren η σ first,denL_ren η σ cap]
 | .iface t v=>by simp[ren,den,den_ren η σ v]
 | .agg cs=>by simp[ren,den,denL_ren η σ cs]
 | .tup vs=>by simp[ren,den,denL_ren η σ vs]
theorem denL_ren(η:Nam)(σ:Nat→Nat): ∀l:List SV,denL η (renL σ l)=denL (fun i=>η (σ i)) l
 |[]=>by simp[renL,denL]
 |x::xs=>by simp[renL,denL,den_ren η σ x,denL_ren η σ xs]
end
def Nam.le(η η':Nam):Prop:= ∀i a,η i=some a→η' i=some a
theorem Nam.le.refl(η:Nam):η.le η:=fun _ _ h=>h
theorem Nam.le.trans{η η' η'':Nam}(h:η.le η')(h':η'.le η''):η.le η'':=fun i a e=>h' i a (h i a e)
mutual
theorem den_mono{η η':Nam}(h:η.le η'): ∀(sv:SV) (v:Value),den η sv=some v→den η' sv=some v
 | .bool _,_,e| .int _ _,_,e| .str _,_,e| .pnil,_,e| .snil,_,e| .mnil,_,e| .fnil,_,e| .inil,_,e| .val _,_,e=>by simpa[den]using e
 | .ptr i _,_,e| .eptr i _ _ _,_,e| .aptr i _ _ _,_,e| .slice i _ _ _ _,_,e| .asl i _ _ _ _,_,e| .map i,_,e| .yld i,_,e| .rptr i _ _,_,e=>by
  simp only[den,Option.map_eq_some_iff]at e⊢;obtain⟨a,ha,rfl⟩:=e;exact⟨a,h i a ha,rfl⟩
 | .osl true i _ _ _,_,e=>by
  simp only[den,Option.map_eq_some_iff]at e⊢;obtain⟨a,ha,rfl⟩:=e;exact⟨a,h i a ha,rfl⟩
 | .osl false _ _ _ _,_,e=>by simpa[den]using e
 | .row j _ _ _,_,e=>by
  simp only[den,Option.bind_eq_some_iff]at e⊢;obtain⟨a,ha,e⟩:=e;exact⟨a,h j a ha,e⟩
 | .fn f first cap,v,e=>by
  simp only[den,Option.bind_eq_some_iff,Option.map_eq_some_iff]at e⊢;obtain⟨a,ha,b,hb,rfl⟩:=e;exact⟨a,denL_mono h first a ha,b,denL_mono h cap b hb,rfl⟩
 | .iface t x,v,e=>by
  simp only[den,Option.map_eq_some_iff]at e⊢;obtain⟨a,ha,rfl⟩:=e;exact⟨a,den_mono h x a ha,rfl⟩
 | .agg cs,v,e=>by
  simp only[den,Option.map_eq_some_iff]at e⊢;obtain⟨a,ha,rfl⟩:=e;exact⟨a,denL_mono h cs a ha,rfl⟩
 | .tup cs,v,e=>by
  simp only[den,Option.map_eq_some_iff]at e⊢;obtain⟨a,ha,rfl⟩:=e;exact⟨a,denL_mono h cs a ha,rfl⟩
theorem denL_mono{η η':Nam}(h:η.le η'): ∀(l:List SV) (vs:List Value),denL η l=some vs→denL η' l=some vs
 |[],_,e=>by simpa[denL]using e
 |x::xs,vs,e=>by
  simp only[denL,Option.bind_eq_some_iff,Option.map_eq_some_iff]at e⊢;obtain⟨a,ha,as,has,rfl⟩:=e;exact⟨a,den_mono h x a ha,as,denL_mono h xs as has,rfl⟩
end
theorem denL_cons{η:Nam}{x:SV}{xs:List SV}{vs:List Value} :denL η (x::xs)=some vs↔ ∃a as,den η x=some a∧denL η xs=some as∧vs=a::as:=by
 simp only[denL,Option.bind_eq_some_iff,Option.map_eq_some_iff];constructor
 ·rintro⟨a,ha,as,has,rfl⟩;exact⟨a,as,ha,has,rfl⟩
 ·rintro⟨a,as,ha,has,rfl⟩;exact⟨a,ha,as,has,rfl⟩
theorem denL_length{η:Nam} : ∀{l:List SV} {vs:List Value},denL η l=some vs→vs.length=l.length
 |[],vs,e=>by simp[denL]at e;simp[←e]
 |x::xs,vs,e=>by
  obtain⟨a,as,_,has,rfl⟩:=denL_cons.1 e;simp[denL_length has]
theorem denL_get{η:Nam} : ∀{l:List SV} {vs:List Value},denL η l=some vs→ ∀{j:Nat} {sv:SV},l[j]?=some sv→ ∃v,den η sv=some v∧vs[j]?=some v
 |[],vs,e,j,sv,h=>by simp at h
 |x::xs,vs,e,j,sv,h=>by
  obtain⟨a,as,ha,has,rfl⟩:=denL_cons.1 e;cases j with
  |zero=>simp at h;exact⟨a,h▸ha,by simp⟩
  |succ j=>simp at h⊢;exact denL_get has h
theorem denL_append{η:Nam} : ∀{l l':List SV} {vs vs':List Value},denL η l=some vs→denL η l'=some vs'→denL η (l++l')=some (vs++vs')
 |[],l',vs,vs',e,e'=>by simp[denL]at e;simp[←e,e']
 |x::xs,l',vs,vs',e,e'=>by
  obtain⟨a,as,ha,has,rfl⟩:=denL_cons.1 e;exact denL_cons.2 ⟨a,as++vs',ha,denL_append has e',rfl⟩
theorem denL_take{η:Nam} : ∀{l:List SV} {vs:List Value} (n:Nat),denL η l=some vs→denL η (l.take n)=some (vs.take n)
 |[],vs,n,e=>by simp[denL]at e;subst e;simp[denL]
 |x::xs,vs,0,e=>by simp[denL]
 |x::xs,vs,n+1,e=>by
  obtain⟨a,as,ha,has,rfl⟩:=denL_cons.1 e;exact denL_cons.2 ⟨a,as.take n,ha,denL_take n has,rfl⟩
theorem denL_drop{η:Nam} : ∀{l:List SV} {vs:List Value} (n:Nat),denL η l=some vs→denL η (l.drop n)=some (vs.drop n)
 |[],vs,n,e=>by simp[denL]at e;subst e;simp[denL]
 |x::xs,vs,0,e=>by simpa using e
 |x::xs,vs,n+1,e=>by
  obtain⟨a,as,ha,has,rfl⟩:=denL_cons.1 e;simpa using denL_drop n has
def MemoObj(n:Nat)(F:List Int→Int)(has:List (List Int))(o:Obj):Prop:=
 ∃es clock,o= .map es clock∧(∀e∈es.toList,∃ks,ks.length=n∧e.key=intsV ks∧e.val= .int .i64 (F ks))∧ ∀ks∈has,∃e∈es.toList,e.key=intsV ks
def relT(η:Nam)(T:List (Option SV))(tmps:Array Value):Prop:=
 tmps.size=T.length∧ ∀(k:Nat) (sv:SV),T[k]?=some (some sv)→ ∃v,den η sv=some v∧tmps[k]?=some v
theorem relT.mono{η η':Nam}(hle:η.le η'){T:List (Option SV)}{tmps:Array Value}(h:relT η T tmps):relT η' T tmps:=
 ⟨h.1,fun k sv hk=>let⟨v,h1,h2⟩:=h.2 k sv hk;⟨v,den_mono hle _ _ h1,h2⟩⟩
def renT(σ:Nat→Nat)(T:List (Option SV)):List (Option SV):=T.map fun x=>x.map (ren σ)
theorem relT_ren(η:Nam)(σ:Nat→Nat)(T:List (Option SV))(tmps:Array Value):relT η (renT σ T) tmps↔relT (fun i=>η (σ i)) T tmps:=by
 unfold relT renT;constructor
 ·rintro⟨h1,h2⟩;refine⟨by simpa using h1,fun k sv hk=>?_⟩;obtain⟨v,h3,h4⟩:=h2 k (ren σ sv) (by simp[hk]);exact⟨v,by rwa [den_ren]at h3,h4⟩
 ·rintro⟨h1,h2⟩;refine⟨by simpa using h1,fun k sv hk=>?_⟩;simp only[List.getElem?_map,Option.map_eq_some_iff]at hk;obtain⟨x,hx,y,rfl,rfl⟩:=hk;obtain⟨v,h3,h4⟩:=h2 k y hx;exact⟨v,by rwa [den_ren],h4⟩
def NLe(l l':List (Option (Nat×Nat))):Prop:=l.length=l'.length∧ ∀(j:Nat) (a:Nat×Nat),l[j]?=some (some a)→l'[j]?=some (some a)
theorem NLe.map{η η':Nam}(h:η.le η')(ns:List Nat):NLe (ns.map η) (ns.map η'):=by
 refine⟨by simp,fun j a hj=>?_⟩;rw[List.getElem?_map]at hj⊢;cases hn:ns[j]? with
 |none=>rw[hn]at hj;cases hj
 |some i=>
  rw[hn]at hj;simp only[Option.map_some,Option.some.injEq]at hj⊢;exact h i a hj
structure OB where
 R:List (Option (Nat×Nat))→(Nat→Prop)→World→Prop
 mono: ∀{l l':List (Option (Nat×Nat))} {F:Nat→Prop} {w:World},NLe l l'→R l F w→R l' F w
 near: ∀{l:List (Option (Nat×Nat))} {F:Nat→Prop} {w w':World},(∀b,F b→w'.heap[b]?=w.heap[b]?)→R l F w→R l F w'
inductive SObj where
 |dead
 |cells (cs:List SV)
 |arr (sz n cap:Nat) (get:Nat→List SV)
 |roc (cs:List SV)
 |roa (sz n:Nat) (get:Nat→List SV)
 |glob (g:Nat) (cs:List SV)
 |obj (I:Obj→Prop)
 |memo (n:Nat) (F:List Int→Int) (has:List (List Int))
 |ext (R:(Nat→Prop)→World→Prop)
 |loopr (T:List (Option SV)) (ps:Array Nat) (assign body:Code) (st:LoopState) (pend:Option Code)
 |vec (sz n:Nat) (get:Nat→List SV)
 |cmap (m:List (Int×Int))
 |citer (left:List (Int×Int)) (cur:Option (Int×Int))
 |gmap (g:GShape) (m:GL)
 |giter (g:GShape) (left:GL) (cur:Option (List Int×List Int))
 |pool (own:Bool) (n:Nat) (len:Nat→Nat) (get:Nat→Nat→Int)
 |pack (ns:List Nat) (ob:OB)
def SObj.rw:SObj→Bool
 | .cells _| .arr .. | .obj _| .ext _| .memo .. | .loopr .. | .vec .. | .cmap _| .citer .. | .gmap .. | .giter .. | .pack .. =>true
 | .pool own .. =>own
 |_=>false
def SObj.foot(o:SObj)(a:Nat×Nat)(F:Nat→Prop)(b:Nat):Prop:=
 match o with
 | .dead=>False
 | .ext _=>F b
 | .vec .. =>F b
 | .citer .. =>F b
 | .giter .. =>F b
 | .pack .. =>F b
 | .pool .. => ∃k,padr a.2 k=b+1
 |_=>a.1=b
def SObj.holds(η:Nam)(o:SObj)(a:Nat×Nat)(F:Nat→Prop)(w:World):Prop:=
 match o with
 | .dead=>True
 | .cells cs=>a.2=0∧ ∃T vs,denL η cs=some vs∧w.heap[a.1]?=some (.cells vs.toArray T (0,0))
 | .arr sz n cap get=>a.2=0∧ ∃T c,w.heap[a.1]?=some (.cells c T (0,0))∧cap*sz≤c.size∧n≤cap∧
   ∀k,k<n→ ∃vs,denL η (get k)=some vs∧vs.length=sz∧ ∀j v,vs[j]?=some v→c[k*sz+j]?=some v
 | .roc cs=> ∃c T fz vs,w.heap[a.1]?=some (.cells c T fz)∧denL η cs=some vs∧ ∀j v,vs[j]?=some v→c[a.2+j]?=some v
 | .roa sz n get=> ∃c T fz,w.heap[a.1]?=some (.cells c T fz)∧
   ∀k,k<n→ ∃vs,denL η (get k)=some vs∧vs.length=sz∧ ∀j v,vs[j]?=some v→c[a.2+(k*sz+j)]?=some v
 | .glob g cs=>a=(g,0)∧ ∃c T fz vs,w.heap[a.1]?=some (.cells c T fz)∧denL η cs=some vs∧ ∀j v,vs[j]?=some v→c[a.2+j]?=some v
 | .obj I=> ∃ob,w.heap[a.1]?=some ob∧I ob
 | .memo n F has=> ∃ob,w.heap[a.1]?=some ob∧MemoObj n F has ob
 | .ext R=> ∀w':World,(∀b,F b→w'.heap[b]?=w.heap[b]?)→R F w'
 | .loopr T ps assign body st pend=> ∃fn d tmps,relT η T tmps∧w.heap[a.1]?=some (.loop {state:=st,pending:=pend,fn,tmps,params:=ps,assign,body,defers:=d})
 | .vec sz n get=>a.2=0∧F a.1∧((n=0∧ ∃T,w.heap[a.1]?=some (.cells #[.slice none 0 0] T (0,0)))∨
   (0<n∧ ∃T b cap T' c,w.heap[a.1]?=some (.cells #[.slice (some ⟨b,0,none⟩) n cap] T (0,0))∧b≠a.1∧F b∧w.heap[b]?=some (.cells c T' (0,0))∧cap*sz≤c.size∧n≤cap∧cap≤9223372036854775807∧
    ∀k,k<n→ ∃vs,denL η (get k)=some vs∧vs.length=sz∧ ∀j v,vs[j]?=some v→c[k*sz+j]?=some v))
 | .cmap m=>w.heap[a.1]?=some (mapObj m)
 | .citer left cur=>a.2=0∧IterAt left cur a.1 F w
 | .gmap g m=>GLens g m∧w.heap[a.1]?=some (gmapObj g m)
 | .giter g left cur=>a.2=0∧IterG g left cur a.1 F w
 | .pack ns ob=>ob.R (ns.map η) F w
 | .pool _ n len get=> ∀k,k<n→(padr a.2 k=0∧len k=0)∨ ∃b T c,padr a.2 k=b+1∧w.heap[b]?=some (.cells c T (0,0))∧ ∀m,m<len k→c[m]?=some (.int .i64 (get k m))
theorem SObj.holds_local{η:Nam}{o:SObj}{a:Nat×Nat}{F:Nat→Prop}{w w':World}(h:o.holds η a F w)(hw: ∀b,o.foot a F b→w'.heap[b]?=w.heap[b]?):o.holds η a F w':=by
 cases o<;>simp only[SObj.holds,SObj.foot]at*;case cells=>rw[hw _ rfl];exact h
 case arr=>rw[hw _ rfl];exact h
 case roc=>rw[hw _ rfl];exact h
 case roa=>rw[hw _ rfl];exact h
 case glob=>rw[hw _ rfl];exact h
 case obj=>rw[hw _ rfl];exact h
 case memo=>rw[hw _ rfl];exact h
 case ext=>exact fun w'' hw''=>h w'' fun b hb=>(hw'' b hb).trans (hw b hb)
 case loopr=>rw[hw _ rfl];exact h
 case vec=>
  obtain⟨h0,hF,h⟩:=h;refine⟨h0,hF,?_⟩;rcases h with⟨hn,T,h1⟩|⟨hn,T,b,cap,T',c,h1,h2,h3,h4,h5⟩
  ·exact .inl ⟨hn,T,by rw[hw _ hF];exact h1⟩
  ·exact .inr ⟨hn,T,b,cap,T',c,by rw[hw _ hF];exact h1,h2,h3,by rw[hw _ h3];exact h4,h5⟩
 case cmap=>rw[hw _ rfl];exact h
 case citer=>exact⟨h.1,h.2.near hw⟩
 case gmap=>exact⟨h.1,by rw[hw _ rfl];exact h.2⟩
 case giter=>exact⟨h.1,h.2.near hw⟩
 case pack ns ob=>exact ob.near hw h
 case pool=>
  intro k hk;rcases h k hk with h|⟨b,T,c,h1,h3,h4⟩
  ·exact .inl h
  ·exact .inr ⟨b,T,c,h1,by rw[hw _ ⟨k,h1⟩];exact h3,h4⟩
theorem SObj.holds_mono{η η':Nam}(hη:η.le η'){o:SObj}{a:Nat×Nat}{F:Nat→Prop}{w:World}(h:o.holds η a F w):o.holds η' a F w:=by
 cases o<;>simp only[SObj.holds]at*;case cells=>obtain⟨h0,T,vs,hd,hh⟩:=h;exact⟨h0,T,vs,denL_mono hη _ _ hd,hh⟩
 case arr=>
  obtain⟨h0,T,c,hh,hs,hn,hk⟩:=h;exact⟨h0,T,c,hh,hs,hn,fun k hkn=>let⟨vs,hd,r⟩:=hk k hkn;⟨vs,denL_mono hη _ _ hd,r⟩⟩
 case roc=>obtain⟨c,T,fz,vs,hh,hd,hj⟩:=h;exact⟨c,T,fz,vs,hh,denL_mono hη _ _ hd,hj⟩
 case roa=>
  obtain⟨c,T,fz,hh,hk⟩:=h;exact⟨c,T,fz,hh,fun k hkn=>let⟨vs,hd,r⟩:=hk k hkn;⟨vs,denL_mono hη _ _ hd,r⟩⟩
 case glob=>obtain⟨e,c,T,fz,vs,hh,hd,hj⟩:=h;exact⟨e,c,T,fz,vs,hh,denL_mono hη _ _ hd,hj⟩
 case obj=>exact h
 case memo=>exact h
 case ext=>exact h
 case loopr=>obtain⟨fn,d,tmps,h1,h2⟩:=h;exact⟨fn,d,tmps,h1.mono hη,h2⟩
 case vec=>
  obtain⟨h0,hF,h⟩:=h;refine⟨h0,hF,?_⟩;rcases h with h|⟨hn,T,b,cap,T',c,h1,h2,h3,h4,h5,h6,h7,h8⟩
  ·exact .inl h
  ·exact .inr ⟨hn,T,b,cap,T',c,h1,h2,h3,h4,h5,h6,h7,fun k hk=>let⟨vs,hd,r⟩:=h8 k hk;⟨vs,denL_mono hη _ _ hd,r⟩⟩
 case cmap=>exact h
 case citer=>exact h
 case gmap=>exact h
 case giter=>exact h
 case pack ns ob=>exact ob.mono (NLe.map hη ns) h
 case pool=>exact h
abbrev SHeap:=List (Option SObj)
abbrev Feet:=Nat→Nat→Prop
def SameEnv(w0 w:World):Prop:=w.os=w0.os∧w.output=w0.output
theorem SameEnv.refl(w:World):SameEnv w w:=⟨rfl,rfl⟩
theorem SameEnv.trans{a b c:World}(h:SameEnv a b)(h':SameEnv b c):SameEnv a c:=⟨h'.1.trans h.1,h'.2.trans h.2⟩
structure Sat(η:Nam)(φ:Feet)(h:SHeap)(w0:World)(Ef:Nat→Prop)(w:World):Prop where
 size:w0.heap.size≤w.heap.size
 env:SameEnv w0 w
 keep: ∀b,b<w0.heap.size→ ¬Ef b→w.heap[b]?=w0.heap[b]?
 dom: ∀i a,η i=some a→ ∃o,h[i]?=some (some o)
 named: ∀i o,h[i]?=some (some o)→ ∃a,η i=some a
 holds: ∀i o a,h[i]?=some (some o)→η i=some a→o.holds η a (φ i) w
 bnd: ∀i o a b,h[i]?=some (some o)→η i=some a→o.foot a (φ i) b→b<w.heap.size
 own: ∀i o a b,h[i]?=some (some o)→η i=some a→o.rw=true→o.foot a (φ i) b→Ef b∨w0.heap.size≤b
 sep: ∀i j oi oj ai aj b,i≠j→h[i]?=some (some oi)→h[j]?=some (some oj)→η i=some ai→η j=some aj→oi.rw=true→oi.foot ai (φ i) b→ ¬oj.foot aj (φ j) b
theorem Sat.world{η:Nam}{φ:Feet}{h:SHeap}{w0:World}{Ef:Nat→Prop}{w w':World}(s:Sat η φ h w0 Ef w)(hw:w'.heap=w.heap)(he:SameEnv w w'):Sat η φ h w0 Ef w':=
  { size := by rw [hw]; exact s.size
    env:=s.env.trans he
    keep:=fun b hb he=>by rw[hw];exact s.keep b hb he
    dom:=s.dom
    named:=s.named
    holds := fun i o a ho ha => SObj.holds_local (s.holds i o a ho ha) fun b _ => by rw [hw]
    bnd:=fun i o a b ho ha hf=>by rw[hw];exact s.bnd i o a b ho ha hf
    own:=s.own
    sep:=s.sep}
theorem get_set{h:SHeap}{i j:Nat}{x:Option SObj}{y:Option SObj}(e:(h.set i x)[j]?=some y):(j=i∧y=x∧i<h.length)∨(j≠i∧h[j]?=some y):=by
 rw[List.getElem?_set]at e;split at e
 ·rename_i hij;subst hij;split at e
  ·rename_i hl;exact .inl ⟨rfl,by simpa using e.symm,hl⟩
  ·simp at e
 ·rename_i hij;exact .inr ⟨fun e'=>hij e'.symm,e⟩
theorem Sat.upd{η:Nam}{φ:Feet}{h:SHeap}{w0:World}{Ef:Nat→Prop}{w w':World}{i:Nat}{o o':SObj}{a:Nat×Nat}(s:Sat η φ h w0 Ef w)
  (hi:h[i]?=some (some o)) (ha:η i=some a) (hrw:o.rw=true) (hf: ∀b,o'.foot a (φ i) b→o.foot a (φ i) b)
  (hsz:w'.heap.size=w.heap.size) (hother: ∀b,¬o.foot a (φ i) b→w'.heap[b]?=w.heap[b]?) (ho':o'.holds η a (φ i) w') (henv:SameEnv w w':=by exact⟨rfl,rfl⟩):Sat η φ (h.set i (some o')) w0 Ef w' where
 size:=by rw[hsz];exact s.size
 env:=s.env.trans henv
 keep b hb he:=by
  rw[hother b fun hfb=>?_]
  ·exact s.keep b hb he
  ·rcases s.own i o a b hi ha hrw hfb with h1|h1
   ·exact he h1
   ·omega
 dom j b hj:=by
  obtain⟨o1,h1⟩:=s.dom j b hj
  by_cases hji:j=i
  ·subst hji
   have hl:j<h.length:=by
    rcases Nat.lt_or_ge j h.length with hl|hl
    ·exact hl
    ·rw[List.getElem?_eq_none hl]at hi;cases hi
   exact⟨o',by simp[hl]⟩
  ·exact⟨o1,by rw[List.getElem?_set_ne (Ne.symm hji)];exact h1⟩
 named j oj hj:=by
  rcases get_set hj with⟨rfl,_,_⟩|⟨_,hj'⟩
  ·exact⟨a,ha⟩
  ·exact s.named j oj hj'
 holds j oj aj hj haj:=by
  rcases get_set hj with⟨rfl,e,_⟩|⟨hne,hj'⟩
  ·cases e;rw[ha]at haj;cases haj;exact ho'
  ·exact SObj.holds_local (s.holds j oj aj hj' haj) fun b hb => hother b fun hfb => s.sep i j o oj a aj b (Ne.symm hne) hi hj' ha haj hrw hfb hb
 bnd j oj aj b hj haj hfb:=by
  rw[hsz]
  rcases get_set hj with⟨rfl,e,_⟩|⟨hne,hj'⟩
  ·cases e;rw[ha]at haj;cases haj;exact s.bnd j o a b hi ha (hf b hfb)
  ·exact s.bnd j oj aj b hj' haj hfb
 own j oj aj b hj haj hr hfb:=by
  rcases get_set hj with⟨rfl,e,_⟩|⟨hne,hj'⟩
  ·cases e;rw[ha]at haj;cases haj;exact s.own j o a b hi ha hrw (hf b hfb)
  ·exact s.own j oj aj b hj' haj hr hfb
 sep j k oj ok aj ak b hjk hj hk haj hak hr hfb hfk:=by
  rcases get_set hj with⟨rfl,e,_⟩|⟨hne,hj'⟩
  ·cases e
   rcases get_set hk with⟨rfl,_,_⟩|⟨hnk,hk'⟩
   ·exact hjk rfl
   ·rw[ha]at haj;cases haj
    exact s.sep j k o ok a ak b hjk hi hk' ha hak hrw (hf b hfb) hfk
  ·rcases get_set hk with⟨rfl,e,_⟩|⟨hnk,hk'⟩
   ·cases e;rw[ha]at hak;cases hak
    exact s.sep j k oj o aj a b hjk hj' hi haj ha hr hfb (hf b hfk)
   ·exact s.sep j k oj ok aj ak b hjk hj' hk' haj hak hr hfb hfk
def Nam.put(η:Nam)(i:Nat)(a:Nat×Nat):Nam:=fun j=>if j=i then some a else η j
theorem Nam.put_same(η:Nam)(i:Nat)(a:Nat×Nat):η.put i a i=some a:=by simp[Nam.put]
theorem Nam.put_other(η:Nam){i j:Nat}(a:Nat×Nat)(h:j≠i):η.put i a j=η j:=by simp[Nam.put,h]
theorem Nam.le_put{η:Nam}{i:Nat}{a:Nat×Nat}(h:η i=none):η.le (η.put i a):=fun j b e=>by
 by_cases hj:j=i
 ·subst hj;rw[h]at e;cases e
 ·rw[Nam.put_other η a hj];exact e
theorem Sat.free{η:Nam}{φ:Feet}{h:SHeap}{w0:World}{Ef:Nat→Prop}{w:World}(s:Sat η φ h w0 Ef w){i:Nat}(hi: ∀o,h[i]?≠some (some o)):η i=none:=by
 cases e:η i with
 |none=>rfl
 |some a=>obtain⟨o,ho⟩:=s.dom i a e;exact absurd ho (hi o)
theorem Sat.new{η:Nam}{φ:Feet}{h:SHeap}{w0:World}{Ef:Nat→Prop}{w:World}{nid:Nat}{o:SObj}{ob:Obj}(s:Sat η φ h w0 Ef w)
    (hn:h[nid]?=some none) (_hrw:o.rw=true) (hfo: ∀b,o.foot (w.heap.size,0) (φ nid) b→b=w.heap.size)
    (ho:o.holds (η.put nid (w.heap.size,0)) (w.heap.size,0) (φ nid) {w with heap:=w.heap.push ob}):
    Sat (η.put nid (w.heap.size,0)) φ (h.set nid (some o)) w0 Ef {w with heap:=w.heap.push ob} :=by
  have hl:nid<h.length:=by
    rcases Nat.lt_or_ge nid h.length with hl|hl
    · exact hl
    · rw[List.getElem?_eq_none hl]at hn;cases hn
  have hnone:η nid=none:=s.free fun o=>by rw[hn];simp
  have hle:=Nam.le_put (a:=(w.heap.size,0)) hnone
  have hold: ∀b,b<w.heap.size→(w.heap.push ob)[b]?=w.heap[b]?:=fun b hb=>by rw[Array.getElem?_push];simp[Nat.ne_of_lt hb]
  exact
    { size := by simp; exact Nat.le_succ_of_le s.size
      env:=s.env
      keep:=fun b hb he=>by simp only;rw[hold b (Nat.lt_of_lt_of_le hb s.size)];exact s.keep b hb he
      dom:=fun j b hj=>by
        by_cases hji:j=nid
        · subst hji;exact⟨o,by simp[hl]⟩
        · rw[Nam.put_other η _ hji]at hj
          obtain⟨o1,h1⟩:=s.dom j b hj
          exact⟨o1,by rw[List.getElem?_set_ne (Ne.symm hji)];exact h1⟩
      named:=fun j oj hj=>by
        rcases get_set hj with⟨rfl,_,_⟩|⟨hne,hj'⟩
        · exact⟨_,Nam.put_same η _ _⟩
        · obtain⟨b,hb⟩:=s.named j oj hj';exact⟨b,hle j b hb⟩
      holds:=fun j oj aj hj haj=>by
        rcases get_set hj with⟨rfl,e,_⟩|⟨hne,hj'⟩
        · cases e;rw[Nam.put_same]at haj;cases haj;exact ho
        · rw[Nam.put_other η _ hne]at haj
          exact SObj.holds_local (SObj.holds_mono hle (s.holds j oj aj hj' haj)) fun b hb => hold b (s.bnd j oj aj b hj' haj hb)
      bnd:=fun j oj aj b hj haj hfb=>by
        simp only[Array.size_push]
        rcases get_set hj with⟨rfl,e,_⟩|⟨hne,hj'⟩
        · cases e;rw[Nam.put_same]at haj;cases haj;rw[hfo b hfb];omega
        · rw[Nam.put_other η _ hne]at haj
          exact Nat.lt_succ_of_lt (s.bnd j oj aj b hj' haj hfb)
      own:=fun j oj aj b hj haj hr hfb=>by
        rcases get_set hj with⟨rfl,e,_⟩|⟨hne,hj'⟩
        · cases e;rw[Nam.put_same]at haj;cases haj;rw[hfo b hfb];exact .inr s.size
        · rw[Nam.put_other η _ hne]at haj
          exact s.own j oj aj b hj' haj hr hfb
      sep:=fun j k oj ok aj ak b hjk hj hk haj hak hr hfb hfk=>by
        rcases get_set hj with⟨rfl,e,_⟩|⟨hne,hj'⟩
        · cases e;rw[Nam.put_same]at haj;cases haj
          rcases get_set hk with⟨rfl,_,_⟩|⟨hnk,hk'⟩
          · exact hjk rfl
          · rw[Nam.put_other η _ hnk]at hak
            have:=s.bnd k ok ak b hk' hak hfk
            have:=hfo b hfb
            omega
        · rw[Nam.put_other η _ hne]at haj
          rcases get_set hk with⟨rfl,e,_⟩|⟨hnk,hk'⟩
          · cases e;rw[Nam.put_same]at hak;cases hak
            have:=s.bnd j oj aj b hj' haj hfb
            have:=hfo b hfk
            omega
          · rw[Nam.put_other η _ hnk]at hak
            exact s.sep j k oj ok aj ak b hjk hj' hk' haj hak hr hfb hfk}
theorem Sat.move{η:Nam}{φ:Feet}{h:SHeap}{w0:World}{Ef:Nat→Prop}{w:World}{i nid:Nat}{o:SObj}{a:Nat×Nat}(s:Sat η φ h w0 Ef w)
    (hi:h[i]?=some (some o)) (ha:η i=some a) (hn:h[nid]?=some none) (hf: ∀b,o.foot a (φ nid) b→o.foot a (φ i) b) (hh:o.holds η a (φ nid) w):
    Sat (η.put nid a) φ ((h.set i (some .dead)).set nid (some o)) w0 Ef w:=by
  have hnone:η nid=none:=s.free fun o=>by rw[hn];simp
  have hle:=Nam.le_put (a:=a) hnone
  have hne:i≠nid:=fun e=>by subst e;rw[hi]at hn;cases hn
  have hl:nid<h.length:=by
    rcases Nat.lt_or_ge nid h.length with hl|hl
    · exact hl
    · rw[List.getElem?_eq_none hl]at hn;cases hn
  have hli:i<h.length:=by
    rcases Nat.lt_or_ge i h.length with hl|hl
    · exact hl
    · rw[List.getElem?_eq_none hl]at hi;cases hi
  have key: ∀j oj,((h.set i (some .dead)).set nid (some o))[j]?=some (some oj)→(j=nid∧oj=o)∨(j=i∧oj= .dead)∨(j≠nid∧j≠i∧h[j]?=some (some oj)):=fun j oj hj=>by
    rcases get_set hj with⟨h1,h2,_⟩|⟨h1,h2⟩
    · cases h2;exact .inl ⟨h1,rfl⟩
    · rcases get_set h2 with⟨h3,h4,_⟩|⟨h3,h4⟩
      · cases h4;exact .inr (.inl ⟨h3,rfl⟩)
      · exact .inr (.inr ⟨h1,h3,h4⟩)
  exact
    { size := s.size
      env:=s.env
      keep:=s.keep
      dom:=fun j b hj=>by
        by_cases hjn:j=nid
        · subst hjn;exact⟨o,by simp[hl]⟩
        · rw[Nam.put_other η _ hjn]at hj
          by_cases hji:j=i
          · subst hji;exact⟨.dead,by rw[List.getElem?_set_ne (Ne.symm hjn)];simp[hli]⟩
          · obtain⟨o1,h1⟩:=s.dom j b hj
            exact⟨o1,by rw[List.getElem?_set_ne (Ne.symm hjn),List.getElem?_set_ne (Ne.symm hji)];exact h1⟩
      named:=fun j oj hj=>by
        rcases key j oj hj with⟨rfl,_⟩|⟨rfl,_⟩|⟨h1,h2,h3⟩
        · exact⟨a,Nam.put_same η _ _⟩
        · exact⟨a,hle _ a ha⟩
        · obtain⟨b,hb⟩:=s.named j oj h3;exact⟨b,hle j b hb⟩
      holds:=fun j oj aj hj haj=>by
        rcases key j oj hj with⟨rfl,rfl⟩|⟨rfl,rfl⟩|⟨h1,h2,h3⟩
        · rw[Nam.put_same]at haj;cases haj;exact SObj.holds_mono hle hh
        · trivial
        · rw[Nam.put_other η _ h1]at haj;exact SObj.holds_mono hle (s.holds j oj aj h3 haj)
      bnd:=fun j oj aj b hj haj hfb=>by
        rcases key j oj hj with⟨rfl,rfl⟩|⟨rfl,rfl⟩|⟨h1,h2,h3⟩
        · rw[Nam.put_same]at haj;cases haj;exact s.bnd i _ a b hi ha (hf b hfb)
        · exact hfb.elim
        · rw[Nam.put_other η _ h1]at haj;exact s.bnd j oj aj b h3 haj hfb
      own:=fun j oj aj b hj haj hr hfb=>by
        rcases key j oj hj with⟨rfl,rfl⟩|⟨rfl,rfl⟩|⟨h1,h2,h3⟩
        · rw[Nam.put_same]at haj;cases haj;exact s.own i _ a b hi ha hr (hf b hfb)
        · exact hfb.elim
        · rw[Nam.put_other η _ h1]at haj;exact s.own j oj aj b h3 haj hr hfb
      sep:=fun j k oj ok aj ak b hjk hj hk haj hak hr hfb hfk=>by
        rcases key j oj hj with⟨rfl,rfl⟩|⟨rfl,rfl⟩|⟨h1,h2,h3⟩
        · rw[Nam.put_same]at haj;cases haj
          rcases key k ok hk with⟨rfl,rfl⟩|⟨rfl,rfl⟩|⟨h1,h2,h3⟩
          · exact hjk rfl
          · exact hfk
          · rw[Nam.put_other η _ h1]at hak;exact s.sep i k _ ok a ak b (Ne.symm h2) hi h3 ha hak hr (hf b hfb) hfk
        · exact hfb
        · rw[Nam.put_other η _ h1]at haj
          rcases key k ok hk with⟨rfl,rfl⟩|⟨rfl,rfl⟩|⟨h4,h5,h6⟩
          · rw[Nam.put_same]at hak;cases hak;exact s.sep j i oj _ aj a b h2 h3 hi haj ha hr hfb (hf b hfk)
          · exact hfk
          · rw[Nam.put_other η _ h4]at hak;exact s.sep j k oj ok aj ak b hjk h3 h6 haj hak hr hfb hfk}
theorem Sat.join{η:Nam}{φ:Feet}{h:SHeap}{w0:World}{Ef:Nat→Prop}{w:World}{i j:Nat}{oi oj o':SObj}{ai aj:Nat×Nat}(s:Sat η φ h w0 Ef w)
    (hi:h[i]?=some (some oi)) (hai:η i=some ai) (hj:h[j]?=some (some oj)) (haj:η j=some aj) (hri:oi.rw=true) (hrj:oj.rw=true) (F':Nat→Prop)
    (hf: ∀b,o'.foot ai F' b→oi.foot ai (φ i) b∨oj.foot aj (φ j) b) (hh:o'.holds η ai F' w):Sat η (fun k=>if k=i then F' else φ k) ((h.set j (some .dead)).set i (some o')) w0 Ef w:=by
  have key: ∀k ok,((h.set j (some .dead)).set i (some o'))[k]?=some (some ok)→(k=i∧ok=o')∨(k≠i∧k=j∧ok= .dead)∨(k≠i∧k≠j∧h[k]?=some (some ok)):=fun k ok hk=>by
    rcases get_set hk with⟨h1,h2,_⟩|⟨h1,h2⟩
    · cases h2;exact .inl ⟨h1,rfl⟩
    · rcases get_set h2 with⟨h3,h4,_⟩|⟨h3,h4⟩
      · cases h4;exact .inr (.inl ⟨h1,h3,rfl⟩)
      · exact .inr (.inr ⟨h1,h3,h4⟩)
  have lt_get: ∀{i:Nat} {x:Option SObj},h[i]?=some x→i<h.length:=fun{i x} e=>by
    rcases Nat.lt_or_ge i h.length with hl|hl
    · exact hl
    · rw[List.getElem?_eq_none hl]at e;cases e
  have hli:=lt_get hi
  have hlj:=lt_get hj
  exact
    { size := s.size
      env:=s.env
      keep:=s.keep
      dom:=fun k b hk=>by
        by_cases hki:k=i
        · subst hki;exact⟨o',by simp[hli]⟩
        · by_cases hkj:k=j
          · subst hkj;exact⟨.dead,by rw[List.getElem?_set_ne (Ne.symm hki)];simp[hlj]⟩
          · obtain⟨o1,h1⟩:=s.dom k b hk
            exact⟨o1,by rw[List.getElem?_set_ne (Ne.symm hki),List.getElem?_set_ne (Ne.symm hkj)];exact h1⟩
      named:=fun k ok hk=>by
        rcases key k ok hk with⟨rfl,_⟩|⟨_,rfl,_⟩|⟨_,_,h3⟩
        · exact⟨_,hai⟩
        · exact⟨_,haj⟩
        · exact s.named k ok h3
      holds:=fun k ok a hk ha=>by
        rcases key k ok hk with⟨rfl,rfl⟩|⟨_,rfl,rfl⟩|⟨h1,_,h3⟩
        · rw[hai]at ha;cases ha;simpa using hh
        · trivial
        · simp only[if_neg h1];exact s.holds k ok a h3 ha
      bnd:=fun k ok a b hk ha hb=>by
        rcases key k ok hk with⟨rfl,rfl⟩|⟨_,rfl,rfl⟩|⟨h1,_,h3⟩
        · rw[hai]at ha;cases ha
          simp only[if_true]at hb
          rcases hf b hb with h|h
          · exact s.bnd _ _ _ b hi hai h
          · exact s.bnd _ _ _ b hj haj h
        · exact hb.elim
        · simp only[if_neg h1]at hb;exact s.bnd k ok a b h3 ha hb
      own:=fun k ok a b hk ha hr hb=>by
        rcases key k ok hk with⟨rfl,rfl⟩|⟨_,rfl,rfl⟩|⟨h1,_,h3⟩
        · rw[hai]at ha;cases ha
          simp only[if_true]at hb
          rcases hf b hb with h|h
          · exact s.own _ _ _ b hi hai hri h
          · exact s.own _ _ _ b hj haj hrj h
        · exact hb.elim
        · simp only[if_neg h1]at hb;exact s.own k ok a b h3 ha hr hb
      sep:=fun k l ok ol ak al b hkl hk hl hak hal hr hb hb'=>by
        rcases key k ok hk with⟨rfl,rfl⟩|⟨_,rfl,rfl⟩|⟨h1,h2,h3⟩
        · rw[hai]at hak;cases hak
          simp only[if_true]at hb
          rcases key l ol hl with⟨rfl,rfl⟩|⟨_,rfl,rfl⟩|⟨h4,h5,h6⟩
          · exact hkl rfl
          · exact hb'
          · simp only[if_neg h4]at hb'
            rcases hf b hb with h|h
            · exact s.sep _ l _ ol ai al b (Ne.symm h4) hi h6 hai hal hri h hb'
            · exact s.sep _ l _ ol aj al b (Ne.symm h5) hj h6 haj hal hrj h hb'
        · exact hb
        · simp only[if_neg h1]at hb
          rcases key l ol hl with⟨rfl,rfl⟩|⟨_,rfl,rfl⟩|⟨h4,h5,h6⟩
          · rw[hai]at hal;cases hal
            simp only[if_true]at hb'
            rcases hf b hb' with h|h
            · exact s.sep k _ ok _ ak ai b h1 h3 hi hak hai hr hb h
            · exact s.sep k _ ok _ ak aj b h2 h3 hj hak haj hr hb h
          · exact hb'
          · simp only[if_neg h4]at hb'
            exact s.sep k l ok ol ak al b hkl h3 h6 hak hal hr hb hb'}
theorem Sat.trim{η:Nam}{φ:Feet}{h:SHeap}{w0:World}{Ef:Nat→Prop}{w:World}(s:Sat η φ (h++[none]) w0 Ef w):Sat η φ h w0 Ef w:=by
  have key: ∀i o,(h++[none])[i]?=some (some o)↔h[i]?=some (some o):=fun i o=>by
    rw[List.getElem?_append];split
    · rfl
    · rename_i hl;rw[List.getElem?_eq_none (Nat.le_of_not_lt hl)];cases i-h.length with
      |zero=>simp
      |succ n=>simp
  exact { size := s.size, env := s.env, keep := s.keep, dom := fun i a e => let ⟨o, ho⟩ := s.dom i a e; ⟨o, (key i o).1 ho⟩, named := fun i o ho => s.named i o ((key i o).2 ho)
          holds:=fun i o a ho ha=>s.holds i o a ((key i o).2 ho) ha,bnd:=fun i o a b ho ha=>s.bnd i o a b ((key i o).2 ho) ha
          own:=fun i o a b ho ha=>s.own i o a b ((key i o).2 ho) ha,sep:=fun i j oi oj ai aj b hij hi hj=>s.sep i j oi oj ai aj b hij ((key i oi).2 hi) ((key j oj).2 hj)}
theorem Sat.room{η:Nam}{φ:Feet}{h:SHeap}{w0:World}{Ef:Nat→Prop}{w:World}(n:Nat)(s:Sat η φ h w0 Ef w):Sat η φ (h++List.replicate n none) w0 Ef w:=by
  have key: ∀i o,(h++List.replicate n none)[i]?=some (some o)↔h[i]?=some (some o):=fun i o=>by
    rw[List.getElem?_append];split
    · rfl
    · rename_i hl;rw[List.getElem?_replicate,List.getElem?_eq_none (Nat.le_of_not_lt hl)];split<;>simp
  exact { size := s.size, env := s.env, keep := s.keep, dom := fun i a e => let ⟨o, ho⟩ := s.dom i a e; ⟨o, (key i o).2 ho⟩, named := fun i o ho => s.named i o ((key i o).1 ho)
          holds:=fun i o a ho ha=>s.holds i o a ((key i o).1 ho) ha,bnd:=fun i o a b ho ha=>s.bnd i o a b ((key i o).1 ho) ha
          own:=fun i o a b ho ha=>s.own i o a b ((key i o).1 ho) ha,sep:=fun i j oi oj ai aj b hij hi hj=>s.sep i j oi oj ai aj b hij ((key i oi).1 hi) ((key j oj).1 hj)}
theorem Sat.less{η:Nam}{φ:Feet}{h:SHeap}{w0:World}{Ef:Nat→Prop}{w:World}{i:Nat}{o o':SObj}(s:Sat η φ h w0 Ef w)(hi:h[i]?=some (some o))
  (hf: ∀a b,o'.foot a (φ i) b→o.foot a (φ i) b) (hr:o'.rw=true→o.rw=true) (hh: ∀a,o.holds η a (φ i) w→o'.holds η a (φ i) w):Sat η φ (h.set i (some o')) w0 Ef w where
 size:=s.size;env:=s.env;keep:=s.keep;dom j b hj:=by
  obtain⟨o1,h1⟩:=s.dom j b hj;by_cases hji:j=i
  ·subst hji;have hl:j<h.length:=by
    rcases Nat.lt_or_ge j h.length with hl|hl
    ·exact hl
    ·rw[List.getElem?_eq_none hl]at hi;cases hi
   exact⟨o',by simp[hl]⟩
  ·exact⟨o1,by rw[List.getElem?_set_ne (Ne.symm hji)];exact h1⟩
 named j oj hj:=by
  rcases get_set hj with⟨rfl,_,_⟩|⟨_,hj'⟩
  ·exact s.named _ o hi
  ·exact s.named j oj hj'
 holds j oj aj hj haj:=by
  rcases get_set hj with⟨rfl,e,_⟩|⟨hne,hj'⟩
  ·cases e;exact hh aj (s.holds _ o aj hi haj)
  ·exact s.holds j oj aj hj' haj
 bnd j oj aj b hj haj hfb:=by
  rcases get_set hj with⟨rfl,e,_⟩|⟨hne,hj'⟩
  ·cases e;exact s.bnd _ o aj b hi haj (hf _ b hfb)
  ·exact s.bnd j oj aj b hj' haj hfb
 own j oj aj b hj haj hrj hfb:=by
  rcases get_set hj with⟨rfl,e,_⟩|⟨hne,hj'⟩
  ·cases e;exact s.own _ o aj b hi haj (hr hrj) (hf _ b hfb)
  ·exact s.own j oj aj b hj' haj hrj hfb
 sep j k oj ok aj ak b hjk hj hk haj hak hrj hfb hfk:=by
  rcases get_set hj with⟨rfl,e,_⟩|⟨hne,hj'⟩
  ·cases e;rcases get_set hk with⟨rfl,_,_⟩|⟨hnk,hk'⟩
   ·exact hjk rfl
   ·exact s.sep _ k o ok aj ak b hjk hi hk' haj hak (hr hrj) (hf _ b hfb) hfk
  ·rcases get_set hk with⟨rfl,e,_⟩|⟨hnk,hk'⟩
   ·cases e;exact s.sep j _ oj o aj ak b hjk hj' hi haj hak hrj hfb (hf _ b hfk)
   ·exact s.sep j k oj ok aj ak b hjk hj' hk' haj hak hrj hfb hfk
structure MemoTy(P:Program)(mt n:Nat):Prop where
 ex: ∃key elem d,P.underlying mt=some (.map key elem)∧P.underlying key=some d∧(∀a b,Instr.sameNow d (.agg a) b=none)∧(∀w,(zeroValue elem).run P w= .ok (.int .i64 0) w)∧
  (∀b ks w,ks.length=n→(Instr.checkKey b 10000 key (intsV ks)).run P w= .ok () w)∧
  (∀ks ks' w,ks.length=n→ks'.length=n→(Op.equal key (intsV ks) (intsV ks')).run P w= .ok (decide (ks=ks')) w)
def EqTy(P:Program)(t n:Nat):Prop:=
 (∀xs ys w,xs.length=n→ys.length=n→(Op.equal t (intsV xs) (intsV ys)).run P w= .ok (decide (xs=ys)) w)∧
 (∀op x0 y0 xs ys w,(eqGuard op t x0 y0 (intsV xs) (intsV ys)).run P w= .ok () w)
def boolsV(bs:List Bool):Value:= .agg (bs.map Value.bool).toArray
def EqTyB(P:Program)(t n:Nat):Prop:=
 (∀xs ys w,xs.length=n→ys.length=n→(Op.equal t (boolsV xs) (boolsV ys)).run P w= .ok (decide (xs=ys)) w)∧
 (∀op x0 y0 xs ys w,(eqGuard op t x0 y0 (boolsV xs) (boolsV ys)).run P w= .ok () w)
section
variable {P:Program} {mt n:Nat}
theorem getObj_map{r:Nat}{es:Array MapEntry}{clock:Nat}{w:World}(hb:w.heap[r]?=some (.map es clock)):(getObj r).run P w= .ok (.map es clock) w:=by
 simp[getObj,Sem.run,hb]
theorem setObj_map{r:Nat}{es:Array MapEntry}{clock:Nat}{w:World}(o:Obj)(hb:w.heap[r]?=some (.map es clock)):(setObj r o).run P w= .ok () {w with heap:=w.heap.setIfInBounds r o} :=by
 simp[setObj,Sem.run,hb]
theorem run_findAsking{key:Nat}(heq: ∀ks ks' w,ks.length=n→ks'.length=n→(Op.equal key (intsV ks) (intsV ks')).run P w= .ok (decide (ks=ks')) w){F:List Int→Int}{ks:List Int}(hl:ks.length=n)(w:World):
  ∀(l:List MapEntry) (i:Nat),(∀e∈l,∃ks,ks.length=n∧e.key=intsV ks∧e.val= .int .i64 (F ks))→
   ((Instr.findAsking key (intsV ks) l i).run P w= .ok none w∧ ∀e∈l,e.key≠intsV ks)∨
   ∃j e,(Instr.findAsking key (intsV ks) l i).run P w= .ok (some (i+j,.int .i64 (F ks))) w∧l[j]?=some e∧e.key=intsV ks
 |[],i,_=> .inl ⟨by simp[Instr.findAsking],fun e h=>by simp at h⟩
 |e::es,i,h=>by
  obtain⟨ks',h1,h2,h3⟩:=h e (by simp)
  have hrun:(Instr.findAsking key (intsV ks) (e::es) i).run P w=if ks=ks' then .ok (some (i,.int .i64 (F ks'))) w else(Instr.findAsking key (intsV ks) es (i+1)).run P w:=by
   rw[Instr.findAsking,Sem.run_bind,h2,heq ks ks' w hl h1,h3]
   by_cases hk:ks=ks'
   ·simp[hk]
   ·simp[hk]
  by_cases hk:ks=ks'
  ·refine .inr ⟨0,e,?_,rfl,by rw[h2,hk]⟩
   rw[hrun,if_pos hk,hk];rfl
  ·rw[if_neg hk]at hrun
   rcases run_findAsking heq hl w es (i+1) (fun e he=>h e (by simp[he]))with⟨p1,p2⟩|⟨j,e',p1,p2,p3⟩
   ·refine .inl ⟨by rw[hrun];exact p1,fun e' he'=>?_⟩
    rcases List.mem_cons.1 he' with rfl|he'
    ·rw[h2];exact fun e=>hk (intsV_inj e).symm
    ·exact p2 e' he'
   ·refine .inr ⟨j+1,e',?_,by simpa using p2,p3⟩
    rw[hrun,p1];congr 3;omega
theorem run_findKey_memo{key:Nat}{d:TypeDesc}(hd:P.underlying key=some d)(hsn: ∀a b,Instr.sameNow d (.agg a) b=none)
  (heq: ∀ks ks' w,ks.length=n→ks'.length=n→(Op.equal key (intsV ks) (intsV ks')).run P w= .ok (decide (ks=ks')) w) {F:List Int→Int} {ks:List Int} (hl:ks.length=n) (w:World)
  (l:List MapEntry) (h: ∀e∈l,∃ks,ks.length=n∧e.key=intsV ks∧e.val= .int .i64 (F ks)):
   ((Instr.findKey key (intsV ks) l).run P w= .ok none w∧ ∀e∈l,e.key≠intsV ks)∨
   ∃j e,(Instr.findKey key (intsV ks) l).run P w= .ok (some (j,.int .i64 (F ks))) w∧l[j]?=some e∧e.key=intsV ks:=by
 have hu:(underlying key).run P w= .ok d w:=by simp[Go.underlying,hd]
 unfold Instr.findKey
 rw[Sem.run_bind,hu]
 cases l with
 |nil=>exact .inl ⟨by simp[Instr.findNow],fun e h=>by simp at h⟩
 |cons e es=>
  have hn:Instr.findNow d (intsV ks) (e::es) 0=none:=by
   simp only[Instr.findNow,intsV,hsn]
  simp only[Result.andThen_ok,hn]
  rcases run_findAsking heq hl w (e::es) 0 h with p|⟨j,e',p1,p2,p3⟩
  ·exact .inl p
  ·exact .inr ⟨j,e',by rw[p1,Nat.zero_add],p2,p3⟩
theorem run_lookup_memo(ht:MemoTy P mt n){r:Nat}{o:Obj}{w:World}(hb:w.heap[r]?=some o){F:List Int→Int}{has:List (List Int)}(ho:MemoObj n F has o){ks:List Int}(hl:ks.length=n)(cok:Bool):
  ∃(b:Bool) (v:Int),(b=true→v=F ks)∧(b=false→v=0)∧(ks∈has→b=true)∧(Instr.lookup mt (.map (some r)) (intsV ks) cok).run P w= .ok (if cok then .tuple #[.int .i64 v,.bool b]else .int .i64 v) w:=by
 obtain⟨key,elem,d,h1,h2,h3,h4,h5,h6⟩:=ht.ex;obtain⟨es,clock,rfl,h7,h8⟩:=ho;have hu:(underlying mt).run P w= .ok (.map key elem) w:=by simp[Go.underlying,h1]
 have hg:(getObj r).run P w= .ok (.map es clock) w:=getObj_map hb;rcases run_findKey_memo h2 h3 h6 hl w es.toList h7 with⟨p1,p2⟩|⟨j,e,p1,p2,p3⟩
 ·refine⟨false,0,fun h=>(by cases h),fun _=>rfl,fun hm=>?_,?_⟩
  ·obtain⟨e,he,hk⟩:=h8 ks hm;exact absurd hk (p2 e he)
  ·simp only[Instr.lookup,Sem.run_bind,hu,Result.andThen_ok,hg,Sem.run_pure,h5 _ ks w hl,p1,h4 w]
 ·refine⟨true,F ks,fun _=>rfl,fun h=>(by cases h),fun _=>rfl,?_⟩;simp only[Instr.lookup,Sem.run_bind,hu,Result.andThen_ok,hg,Sem.run_pure,h5 _ ks w hl,p1]
theorem run_mapUpdate_memo(ht:MemoTy P mt n){r:Nat}{o:Obj}{w:World}(hb:w.heap[r]?=some o){F:List Int→Int}{has:List (List Int)}(ho:MemoObj n F has o){ks:List Int}(hl:ks.length=n){v:Int}(hv:v=F ks):
  ∃o',MemoObj n F (ks::has) o'∧(Instr.mapUpdate mt (.map (some r)) (intsV ks) (.int .i64 v)).run P w= .ok () {w with heap:=w.heap.setIfInBounds r o'} :=by
 subst hv;obtain⟨key,elem,d,h1,h2,h3,h4,h5,h6⟩:=ht.ex;obtain⟨es,clock,rfl,h7,h8⟩:=ho;have hu:(underlying mt).run P w= .ok (.map key elem) w:=by simp[Go.underlying,h1]
 have hg:(getObj r).run P w= .ok (.map es clock) w:=getObj_map hb;have hset: ∀o',(setObj r o').run P w= .ok () {w with heap:=w.heap.setIfInBounds r o'} :=fun o'=>setObj_map o' hb
 rcases run_findKey_memo h2 h3 h6 hl w es.toList h7 with⟨p1,p2⟩|⟨j,e,p1,p2,p3⟩
 ·refine⟨.map (es.push {key:=intsV ks,val:= .int .i64 (F ks),born:=clock}) (clock+1),⟨_,_,rfl,fun e he=>?_,fun ks' hks=>?_⟩,?_⟩
  ·rw[Array.toList_push,List.mem_append]at he;rcases he with he|he
   ·exact h7 e he
   ·simp at he;subst he;exact⟨ks,hl,rfl,rfl⟩
  ·rw[Array.toList_push];rcases List.mem_cons.1 hks with rfl|hks
   ·exact⟨{key:=intsV ks',val:= .int .i64 (F ks'),born:=clock},List.mem_append_right _ (by simp),rfl⟩
   ·obtain⟨e,he,hk⟩:=h8 ks' hks;exact⟨e,List.mem_append_left _ he,hk⟩
  ·simp only[Instr.mapUpdate,Sem.run_bind,hu,Result.andThen_ok,hg,h5 _ ks w hl,p1,hset]
 ·have hej:es[j]?=some e:=by simpa using p2
  have hkey:((es[j]?).map (·.key)).getD (intsV ks)=intsV ks:=by rw[hej];exact p3
  have hstay:(Instr.keyThatStays (intsV ks) (intsV ks)).run P w= .ok (intsV ks) w:=by
   have:Instr.sameBits 10000 (intsV ks) (intsV ks)=true:=sameBits_ints ks 9998;simp[Instr.keyThatStays,this]
  have hmod: ∀e'∈(es.modify j fun e=>{e with key:=intsV ks,val:= .int .i64 (F ks)}).toList,e'∈es.toList∨(e'.key=intsV ks∧e'.val= .int .i64 (F ks)):=fun e' he'=>by
   obtain⟨i,hi⟩:=List.getElem?_of_mem he';rw[Array.getElem?_toList,Array.getElem?_modify]at hi;split at hi
   ·cases hx:es[i]? with
    |none=>rw[hx]at hi;simp at hi
    |some e0=>
     rw[hx]at hi;simp only[Option.map_some,Option.some.injEq]at hi;subst hi;exact .inr ⟨rfl,rfl⟩
   ·exact .inl (List.mem_of_getElem? (by rw[Array.getElem?_toList];exact hi))
  refine⟨.map (es.modify j fun e=>{e with key:=intsV ks,val:= .int .i64 (F ks)}) clock,⟨_,_,rfl,fun e' he'=>?_,fun ks' hks=>?_⟩,?_⟩
  ·rcases hmod e' he' with h|⟨q1,q2⟩
   ·exact h7 e' h
   ·exact⟨ks,hl,q1,q2⟩
  ·have hall: ∀e0∈es.toList,∃e'∈(es.modify j fun e=>{e with key:=intsV ks,val:= .int .i64 (F ks)}).toList,e'.key=e0.key:=fun e0 he0=>by
    obtain⟨i,hi⟩:=List.getElem?_of_mem he0;rw[Array.getElem?_toList]at hi;by_cases hij:j=i
    ·subst hij;rw[hej]at hi;cases hi;refine⟨{e with key:=intsV ks,val:= .int .i64 (F ks)},List.mem_of_getElem? (i:=j) (by rw[Array.getElem?_toList,Array.getElem?_modify];simp[hej]),p3.symm⟩
    ·exact⟨e0,List.mem_of_getElem? (i:=i) (by rw[Array.getElem?_toList,Array.getElem?_modify];simp[hij,hi]),rfl⟩
   rcases List.mem_cons.1 hks with rfl|hks
   ·obtain⟨e',he',hk⟩:=hall e (List.mem_of_getElem? p2);exact⟨e',he',hk.trans p3⟩
   ·obtain⟨e0,he0,hk⟩:=h8 ks' hks;obtain⟨e',he',hk'⟩:=hall e0 he0;exact⟨e',he',hk'.trans hk⟩
  ·simp only[Instr.mapUpdate,Sem.run_bind,hu,Result.andThen_ok,hg,h5 _ ks w hl,p1,hkey,hstay,hset]
end
end Go.Sy
