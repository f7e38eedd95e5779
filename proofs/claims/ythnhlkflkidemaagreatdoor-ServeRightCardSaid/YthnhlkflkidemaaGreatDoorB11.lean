/-
  Parts: Sy14, Sy15, Sy16, Sy17, Sy18.
-/
import Derived.Test.YthnhlkflkidemaaGreatDoorB10
import Derived.ControlIn
set_option linter.unusedVariables false
set_option linter.unusedSimpArgs false
/-
 Sy14: how contracts are said and used: with tests that compute. No program is named.
-/
namespace Go.Sy
def apartB:List Nat→SHeap→Bool
 |[],_=>true
 |j::σ,h0=>go j (rwAt h0 0) σ 1 h0&&apartB σ h0.tail
where
 go (j:Nat) (r:Bool):List Nat→Nat→SHeap→Bool
  |[],_,_=>true
  |j'::σ,i,h0=>((!r&&!rwAt h0 i)||!Nat.beq j j')&&go j r σ (i+1) h0
theorem apartB_go{j:Nat}{r:Bool} : ∀{σ:List Nat} {i:Nat} {h0:SHeap},apartB.go j r σ i h0=true→(r=true→ ∀j'∈σ,j'≠j)∧ ∀k j',σ[k]?=some j'→rwAt h0 (i+k)=true→j'≠j
 |[],_,_,_=>⟨fun _ _ h=>by simp at h,fun _ _ h=>by simp at h⟩
 |x::σ,i,h0,h=>by
  simp only[apartB.go,Bool.and_eq_true,Bool.or_eq_true,Bool.not_eq_true',←Bool.not_eq_true,Nat.beq_eq]at h;obtain⟨h1,h2⟩:=h;obtain⟨g1,g2⟩:=apartB_go h2;refine⟨fun hr j' hj'=>?_,fun k j' hk hr=>?_⟩
  ·rcases List.mem_cons.1 hj' with rfl|hj'
   ·rcases h1 with h1|h1
    ·exact(h1.1 hr).elim
    ·exact fun e=>h1 e.symm
   ·exact g1 hr j' hj'
  ·cases k with
   |zero=>
    simp at hk;subst hk;rcases h1 with h1|h1
    ·exact(h1.2 (by simpa using hr)).elim
    ·exact fun e=>h1 e.symm
   |succ k=>exact g2 k j' (by simpa using hk) (by rwa [show i+1+k=i+(k+1)by omega])
theorem apartB_ok: ∀{σ:List Nat} {h0:SHeap},apartB σ h0=true→Apart σ h0
 |[],_,_=>trivial
 |j::σ,h0,h=>by
  simp only[apartB,Bool.and_eq_true]at h;obtain⟨h1,h2⟩:=h;obtain⟨g1,g2⟩:=apartB_go h1;refine⟨?_,fun i j' hi hr=>g2 i j' hi (by rwa [Nat.add_comm]),apartB_ok h2⟩;cases h0 with
  |nil=>exact tU
  |cons o h0=>
   cases o with
   |none=>exact tU
   |some o=>exact fun hr=>g1 (by simpa[rwAt]using hr)
def ownO:Option SObj→Bool
 |some .dead=>true
 |some o=>o.rw
 |none=>true
def ownB:SHeap→SHeap→Bool
 |some o::h0,x::h'=>(!o.rw||ownO x)&&ownB h0 h'
 |none::h0,_::h'=>ownB h0 h'
 |[],x::h'=>ownO x&&ownB [] h'
 |_,[]=>true
theorem ownO_ok{o:SObj}(h:ownO (some o)=true):o.rw=true∨o= .dead:=by
 cases o<;>simp_all[ownO,SObj.rw]
theorem ownB_ok: ∀{h0 h':SHeap},ownB h0 h'=true→Own h0 h'
 |some o::h0,x::h',h=>by
  simp only[ownB,Bool.and_eq_true,Bool.or_eq_true,Bool.not_eq_true']at h;intro i o' hi e;cases i with
  |zero=>
   simp at e;subst e;rcases hi with hi|hi
   ·simp at hi
   ·simp only[rwAt,List.getElem?_cons_zero]at hi;rcases h.1 with h1|h1
    ·rw[h1]at hi;cases hi
    ·exact ownO_ok h1
  |succ i=>exact ownB_ok h.2 i o' (by simpa[rwAt]using hi) (by simpa using e)
 |none::h0,x::h',h=>by
  intro i o' hi e;cases i with
  |zero=>simp[rwAt]at hi
  |succ i=>exact ownB_ok (h0:=h0) (h':=h') (by simpa[ownB]using h) i o' (by simpa[rwAt]using hi) (by simpa using e)
 |[],x::h',h=>by
  simp only[ownB,Bool.and_eq_true]at h;intro i o' _ e;cases i with
  |zero=>simp at e;subst e;exact ownO_ok h.1
  |succ i=>exact ownB_ok h.2 i o' (.inl (Nat.zero_le _)) (by simpa using e)
 |some _::_,[],_=>fun i o' _ e=>by simp at e
 |none::_,[],_=>fun i o' _ e=>by simp at e
 |[],[],_=>fun i o' _ e=>by simp at e
/-! ### Values made whole in depth -/
def fcA(v:SV)(k:SV→Prop):Prop:=
 match v with
 | .agg cs=>k (.agg cs)
 | .tup cs=>k (.tup cs)
 | .fn f a b=>k (.fn f a b)
 | .bool b=>k (.bool b)
 | .int t n=>k (.int t n)
 | .str s=>k (.str s)
 | .ptr i o=>fcN i fun i=>fcN o fun o=>k (.ptr i o)
 | .eptr i sz j o=>fcN i fun i=>fcN o fun o=>k (.eptr i sz j o)
 | .aptr i o l j=>fcN i fun i=>fcN o fun o=>k (.aptr i o l j)
 | .pnil=>k .pnil
 | .slice i sz eo l c=>fcN i fun i=>k (.slice i sz eo l c)
 | .asl i o al l n=>fcN i fun i=>fcN o fun o=>k (.asl i o al l n)
 | .snil=>k .snil
 | .map i=>fcN i fun i=>k (.map i)
 | .mnil=>k .mnil
 | .yld i=>k (.yld i)
 | .osl b i sz l c=>fcN i fun i=>k (.osl b i sz l c)
 | .row i j l c=>fcN i fun i=>k (.row i j l c)
 | .rptr i j m=>fcN i fun i=>k (.rptr i j m)
 | .fnil=>k .fnil
 | .iface t v=>k (.iface t v)
 | .inil=>k .inil
 | .val v=>k (.val v)
theorem fcA_eq(v:SV)(k:SV→Prop):fcA v k=k v:=by
 cases v<;>simp[fcA,fcN_eq]
def fcLA(l:List SV)(k:List SV→Prop):Prop:=
 match l with
 |[]=>k []
 |x::xs=>fcA x fun x=>fcLA xs fun ys=>k (x::ys)
theorem fcLA_eq: ∀(l:List SV) (k:List SV→Prop),fcLA l k=k l
 |[],_=>rfl
 |x::xs,k=>by rw[fcLA,fcA_eq,fcLA_eq xs]
def fcB(v:SV)(k:SV→Prop):Prop:=
 match v with
 | .agg cs=>fcLA cs fun cs=>k (.agg cs)
 | .tup cs=>fcLA cs fun cs=>k (.tup cs)
 | .fn f a b=>fcLA a fun a=>fcLA b fun b=>k (.fn f a b)
 | .bool b=>k (.bool b)
 | .int t n=>k (.int t n)
 | .str s=>k (.str s)
 | .ptr i o=>fcN i fun i=>fcN o fun o=>k (.ptr i o)
 | .eptr i sz j o=>fcN i fun i=>fcN o fun o=>k (.eptr i sz j o)
 | .aptr i o l j=>fcN i fun i=>fcN o fun o=>k (.aptr i o l j)
 | .pnil=>k .pnil
 | .slice i sz eo l c=>fcN i fun i=>k (.slice i sz eo l c)
 | .asl i o al l n=>fcN i fun i=>fcN o fun o=>k (.asl i o al l n)
 | .snil=>k .snil
 | .map i=>fcN i fun i=>k (.map i)
 | .mnil=>k .mnil
 | .yld i=>k (.yld i)
 | .osl b i sz l c=>fcN i fun i=>k (.osl b i sz l c)
 | .row i j l c=>fcN i fun i=>k (.row i j l c)
 | .rptr i j m=>fcN i fun i=>k (.rptr i j m)
 | .fnil=>k .fnil
 | .iface t v=>k (.iface t v)
 | .inil=>k .inil
 | .val v=>k (.val v)
theorem fcB_eq(v:SV)(k:SV→Prop):fcB v k=k v:=by
 cases v<;>simp[fcB,fcN_eq,fcLA_eq]
def fcLB(l:List SV)(k:List SV→Prop):Prop:=
 match l with
 |[]=>k []
 |x::xs=>fcB x fun x=>fcLB xs fun ys=>k (x::ys)
theorem fcLB_eq: ∀(l:List SV) (k:List SV→Prop),fcLB l k=k l
 |[],_=>rfl
 |x::xs,k=>by rw[fcLB,fcB_eq,fcLB_eq xs]
def fcW(v:SV)(k:SV→Prop):Prop:=
 match v with
 | .agg cs=>fcLB cs fun cs=>k (.agg cs)
 | .tup cs=>fcLB cs fun cs=>k (.tup cs)
 | .fn f a b=>fcLA a fun a=>fcLA b fun b=>k (.fn f a b)
 | .bool b=>k (.bool b)
 | .int t n=>k (.int t n)
 | .str s=>k (.str s)
 | .ptr i o=>fcN i fun i=>fcN o fun o=>k (.ptr i o)
 | .eptr i sz j o=>fcN i fun i=>fcN o fun o=>k (.eptr i sz j o)
 | .aptr i o l j=>fcN i fun i=>fcN o fun o=>k (.aptr i o l j)
 | .pnil=>k .pnil
 | .slice i sz eo l c=>fcN i fun i=>k (.slice i sz eo l c)
 | .asl i o al l n=>fcN i fun i=>fcN o fun o=>k (.asl i o al l n)
 | .snil=>k .snil
 | .map i=>fcN i fun i=>k (.map i)
 | .mnil=>k .mnil
 | .yld i=>k (.yld i)
 | .osl b i sz l c=>fcN i fun i=>k (.osl b i sz l c)
 | .row i j l c=>fcN i fun i=>k (.row i j l c)
 | .rptr i j m=>fcN i fun i=>k (.rptr i j m)
 | .fnil=>k .fnil
 | .iface t v=>k (.iface t v)
 | .inil=>k .inil
 | .val v=>k (.val v)
theorem fcW_eq(v:SV)(k:SV→Prop):fcW v k=k v:=by
 cases v<;>simp[fcW,fcN_eq,fcLA_eq,fcLB_eq]
def fcU(o:SObj)(k:SObj→Prop):Prop:=
 match o with
 | .cells cs=>fcLB cs fun cs=>k (.cells cs)
 | .dead=>k .dead
 | .arr sz n cap get=>k (.arr sz n cap get)
 | .roc cs=>fcL cs fun cs=>k (.roc cs)
 | .roa sz n get=>k (.roa sz n get)
 | .glob g cs=>k (.glob g cs)
 | .obj I=>k (.obj I)
 | .memo n F has=>k (.memo n F has)
 | .ext R=>k (.ext R)
 | .loopr T ps a b st p=>k (.loopr T ps a b st p)
 | .vec sz n get=>k (.vec sz n get)
 | .cmap m=>k (.cmap m)
 | .citer l c=>k (.citer l c)
 | .gmap g m=>k (.gmap g m)
 | .giter g l c=>k (.giter g l c)
 | .pack ns ob=>fcNs ns fun ns=>k (.pack ns ob)
 | .pool o n l g=>k (.pool o n l g)
theorem fcU_eq(o:SObj)(k:SObj→Prop):fcU o k=k o:=by
 cases o<;>simp[fcU,fcL_eq,fcLB_eq,fcNs_eq]
def fcH(h:SHeap)(k:SHeap→Prop):Prop:=
 match h with
 |[]=>k []
 |none::xs=>fcH xs fun ys=>k (none::ys)
 |some o::xs=>fcU o fun o=>fcH xs fun ys=>k (some o::ys)
theorem fcH_eq: ∀(h:SHeap) (k:SHeap→Prop),fcH h k=k h
 |[],_=>rfl
 |none::xs,_=>fcH_eq xs _
 |some o::xs,k=>by rw[fcH,fcU_eq,fcH_eq xs]
def Ret(v:SV)(h:SHeap):CE→SHeap→Prop:=fun ce h'=>ce= .ret v∧h'=h
def Pan(v:SV)(h:SHeap):CE→SHeap→Prop:=fun ce h'=>ce= .panic v∧h'=h
theorem CallP.use{P:Program}{f:FuncId}{a0 args:List SV}{h0 h' h:SHeap}{v:SV}{K:CE→SHeap→Prop}(hc:CallP P f a0 h0 (Ret v h'))(σ:List Nat)
  (hk : fcH (updH σ h h0 h') fun H => fcW (ren (sig σ h.length) v) fun v => K (.ret v) H)
  (hf:Fits (sig σ h.length) h σ h0) (ha:renL (sig σ h.length) a0=args)
  (hap:apartB σ h0=true:=by rfl) (ho:ownB h0 h'=true:=by rfl):CallP P f args h K:=
 CallP.frame hc σ hf (apartB_ok hap) ha fun ce h'' hk'=>by
  obtain⟨rfl,rfl⟩:=hk'
  rw[fcH_eq,fcW_eq]at hk
  exact⟨ownB_ok ho,hk⟩
theorem CallP.useP{P:Program}{f:FuncId}{a0 args:List SV}{h0 h' h:SHeap}{v:SV}{K:CE→SHeap→Prop}(hc:CallP P f a0 h0 (Pan v h'))(σ:List Nat)
  (hk : fcH (updH σ h h0 h') fun H => fcW (ren (sig σ h.length) v) fun v => K (.panic v) H)
  (hf:Fits (sig σ h.length) h σ h0) (ha:renL (sig σ h.length) a0=args)
  (hap:apartB σ h0=true:=by rfl) (ho:ownB h0 h'=true:=by rfl):CallP P f args h K:=
 CallP.frame hc σ hf (apartB_ok hap) ha fun ce h'' hk'=>by
  obtain⟨rfl,rfl⟩:=hk'
  rw[fcH_eq,fcW_eq]at hk
  exact⟨ownB_ok ho,hk⟩
theorem YieldP.use{P:Program}{i i0:Nat}{a0 args:List SV}{h0 h' h:SHeap}{v:SV}{K:CE→SHeap→Prop}(hc:YieldP P i0 a0 h0 (Ret v h'))(σ:List Nat)
  (hk : fcH (updH σ h h0 h') fun H => fcW (ren (sig σ h.length) v) fun v => K (.ret v) H)
  (hf:Fits (sig σ h.length) h σ h0) (ha:renL (sig σ h.length) a0=args)
  (hi:sig σ h.length i0=i:=by rfl) (hap:apartB σ h0=true:=by rfl) (ho:ownB h0 h'=true:=by rfl):YieldP P i args h K:=
 YieldP.frame hc σ hf (apartB_ok hap) ha hi fun ce h'' hk'=>by
  obtain⟨rfl,rfl⟩:=hk'
  rw[fcH_eq,fcW_eq]at hk
  exact⟨ownB_ok ho,hk⟩
def Ent(n:Nat)(s t:St):Prop:=
 ∀(η:Nam) (φ:Feet) (w0:World) (Ef:Nat→Prop) (w:World) (a:Act),n≤s.H.length→Sat η φ s.H w0 Ef w→TRel η s.T a.tmps→DRel η s.D a.defers→
  ∃η' φ',Pin n η η'∧n≤t.H.length∧Sat η' φ' t.H w0 Ef w∧TRel η' t.T a.tmps∧DRel η' t.D a.defers
def TmLe(F:Nat→Nat):Tm→Tm→Prop
 |[],[]=>True
 |_::xs,none::ys=>TmLe F xs ys
 |some (g,v)::xs,some (g',v')::ys=>g=g'∧v=ren F v'∧TmLe F xs ys
 |_,_=>False
theorem TmLe.get{F:Nat→Nat} : ∀{S T:Tm},TmLe F S T→S.length=T.length∧ ∀(k:Nat) (g:Option Bool) (v:SV),T[k]?=some (some (g,v))→S[k]?=some (some (g,ren F v))
 |[],[],_=>⟨rfl,fun k g v h=>by simp at h⟩
 |[],none::_,h=>h.elim
 |[],some _::_,h=>h.elim
 |_::_,[],h=>h.elim
 |none::_,some (_,_)::_,h=>h.elim
 |x::xs,none::ys,h=>by
  have h:TmLe F xs ys:=by cases x<;>exact h
  obtain⟨e,hg⟩:=TmLe.get h;refine⟨by simp[e],fun k g v hk=>?_⟩;cases k with
  |zero=>simp at hk
  |succ k=>simpa using hg k g v (by simpa using hk)
 |some (g,v)::xs,some (g',v')::ys,h=>by
  obtain⟨rfl,rfl,h⟩:=h;obtain⟨e,hg⟩:=TmLe.get h;refine⟨by simp[e],fun k g v hk=>?_⟩;cases k with
  |zero=>simp at hk;obtain⟨rfl,rfl⟩:=hk;simp
  |succ k=>simpa using hg k g v (by simpa using hk)
def fixB(n:Nat)(τ:List Nat):Bool:=go n 0 τ
where
 go:Nat→Nat→List Nat→Bool
  |0,_,_=>true
  |n+1,i,j::τ=>Nat.beq i j&&go n (i+1) τ
  |_+1,_,[]=>false
theorem fixB_go: ∀{n i:Nat} {τ:List Nat},fixB.go n i τ=true→n≤τ.length∧ ∀k,k<n→τ[k]?=some (i+k)
 |0,_,_,_=>⟨Nat.zero_le _,fun k h=>by omega⟩
 |n+1,i,[],h=>by simp[fixB.go]at h
 |n+1,i,j::τ,h=>by
  simp only[fixB.go,Bool.and_eq_true,Nat.beq_eq]at h;obtain⟨rfl,h2⟩:=h;obtain⟨g1,g2⟩:=fixB_go h2;refine⟨by simp;omega,fun k hk=>?_⟩;cases k with
  |zero=>simp
  |succ k=>rw[List.getElem?_cons_succ,g2 k (by omega)];congr 1;omega
theorem fixB_ok{n:Nat}{τ:List Nat}(h:fixB n τ=true):n≤τ.length∧ ∀k,k<n→τ[k]?=some k:=by
 obtain⟨h1,h2⟩:=fixB_go h;exact⟨h1,fun k hk=>by simpa using h2 k hk⟩
def sel(τ:List Nat)(m:Nat)(i:Nat):Nat:=
 match τ[i]? with
 |some j=>j
 |none=>m
theorem ent_of{n:Nat}{s t:St}(τ:List Nat)(hf:Fits (sel τ s.H.length) s.H τ t.H)(ht:TmLe (sel τ s.H.length) s.T t.T)(hD:s.D=renL (sel τ s.H.length) t.D)
    (hap:apartB τ t.H=true) (hfx:fixB n τ=true):Ent n s t:=by
  intro η φ w0 Ef w a hn hs hT hDr
  obtain⟨hlen,hget⟩:=hf.get
  have hap:=apartB_ok hap
  obtain⟨hfx1,hfx2⟩:=fixB_ok hfx
  let F:=sel τ s.H.length
  have hFe: ∀i j,τ[i]?=some j→F i=j:=fun i j e=>by show sel τ _ i=j;simp[sel,e]
  have hηnone: ∀j,s.H.length≤j→η j=none:=fun j hj=>by
    cases e:η j with
    |none=>rfl
    |some a=>
      obtain⟨o,ho⟩:=hs.dom j a e
      have:=lt_of_get ho
      omega
  have hent: ∀i o0,t.H[i]?=some (some o0)→ ∃o,s.H[F i]?=some (some o)∧ObjLe F o o0∧τ[i]?=some (F i):=fun i o0 e=>by
    obtain⟨j,o0',o,e1,e2,e3,e4⟩:=hget i (lt_of_get e)
    rw[e]at e2;cases e2
    rw[hFe i j e1]
    exact⟨o,e3,e4,e1⟩
  have hle: ∀sv v,den η (ren F sv)=some v→den (fun i=>η (F i)) sv=some v:=fun sv v h=>by rwa [den_ren]at h
  refine⟨fun i=>η (F i),fun i=>φ (F i),fun i hi=>?_,by omega,?_,?_,?_⟩
  · show η (F i)=η i
    rw[hFe i i (hfx2 i hi)]
  · exact
    { size := hs.size
      env:=hs.env
      keep:=hs.keep
      dom:=fun i a e=>by
        by_cases hi:i<t.H.length
        · obtain⟨j,o0,o,e1,e2,e3,e4⟩:=hget i hi
          exact⟨o0,e2⟩
        · have:F i=s.H.length:=by
            show sel τ _ i=_
            simp[sel,List.getElem?_eq_none (by omega:τ.length≤i)]
          rw[this,hηnone _ (Nat.le_refl _)]at e;cases e
      named:=fun i o0 e=>by
        obtain⟨o,e5,e6,_⟩:=hent i o0 e
        exact hs.named _ o e5
      holds:=fun i o0 a e ea=>by
        obtain⟨o,e5,e6,_⟩:=hent i o0 e
        exact e6.holds (hs.holds _ o a e5 ea)
      bnd:=fun i o0 a b e ea eb=>by
        obtain⟨o,e5,e6,_⟩:=hent i o0 e
        exact hs.bnd _ o a b e5 ea (e6.foot a _ b eb)
      own:=fun i o0 a b e ea er eb=>by
        obtain⟨o,e5,e6,_⟩:=hent i o0 e
        exact hs.own _ o a b e5 ea (e6.rw er) (e6.foot a _ b eb)
      sep:=fun i k oi ok ai ak b hik ei ek eai eak er eb ebk=>by
        obtain⟨o,e5,e6,e7⟩:=hent i oi ei
        obtain⟨o',e5',e6',e7'⟩:=hent k ok ek
        exact hs.sep _ _ o o' ai ak b (hap.ne hik e7 e7' (by simp[rwAt,ei,er])) e5 e5' eai eak (e6.rw er) (e6.foot _ _ b eb) (e6'.foot _ _ b ebk)}
  · obtain⟨hl,hg⟩:=ht.get
    refine⟨by rw[hT.1,hl],fun k g v hk=>?_⟩
    have:=hT.2 k g _ (hg k g v hk)
    refine⟨fun h=>?_,this.2⟩
    obtain⟨u,h1,h2⟩:=this.1 h
    exact⟨u,hle _ _ h1,h2⟩
  · have key: ∀(D:List SV) (ds:List Deferred),DRel η (renL F D) ds→DRel (fun i=>η (F i)) D ds:=by
      intro D
      induction D with
      |nil=>intro ds h;exact h
      |cons x xs ih=>
        intro ds h
        unfold DRel at h⊢
        simp only[renL,List.mapM_cons,Option.bind_eq_bind,Option.bind_eq_some_iff,Option.pure_def,Option.some.injEq]at h⊢
        obtain⟨d,h1,ds',h2,h3⟩:=h
        refine⟨d,?_,ds',ih _ h2,h3⟩
        cases x<;>simp only[ren,denD,reduceCtorEq]at h1⊢
        case fn=>simpa only[denL_ren]using h1
        case yld=>exact h1
    rw[hD]at hDr
    exact key _ _ hDr
theorem CodeP.ent{P:Program}{r:Option Nat}{n:Nat}{c:Code}{s t:St}{K:SE→St→Prop}(he:Ent n s t)(hc:CodeP P r n c t K):CodeP P r n c s K:=by
 intro η0 η φ w0 Ef w a h1 h2 h3 h4 h5;obtain⟨η',φ',p1,p2,p3,p4,p5⟩:=he η φ w0 Ef w a h2 h3 h4 h5;exact hc η0 η' φ' w0 Ef w a (fun i hi=>(p1 i hi).trans (h1 i hi)) p2 p3 p4 p5
theorem codeP_loop{P:Program}{r:Option Nat}{n:Nat}{c:Code}{s:St}{K:SE→St→Prop}{γ:Type}(I:γ→St)(p:γ→Prop)(μ:γ→Nat)(g0:γ)(h0:p g0)(he:Ent n s (I g0))
  (round : ∀ g, p g → CodeP P r n c (I g) fun se s' => match se with
   | .normal=> ∃g',p g'∧μ g'<μ g∧Ent n s' (I g')
   |se=>K se s'):CodeP P r n (.loop c) s K:=by
 refine CodeP.ent he ?_
 intro η0 η φ w0 Ef w a h1 h2 h3 h4 h5
 let J:Nat→Act→World→Prop:=fun m a w=> ∃g η φ,p g∧μ g=m∧Pin n η0 η∧n≤(I g).H.length∧Sat η φ (I g).H w0 Ef w∧TRel η (I g).T a.tmps∧DRel η (I g).D a.defers
 classical
 have key: ∀a w,(∃m,J m a w)→ ∃m,J m a w∧ ∀m',J m' a w→m≤m':=fun a w ⟨m,hm⟩=>by
  induction m using Nat.strongRecOn with
  |_ m ih=>
   by_cases hx: ∃m',m'<m∧J m' a w
   ·obtain⟨m',h1,h2⟩:=hx;exact ih m' h1 h2
   ·exact⟨m,hm,fun m' hm'=>Nat.le_of_not_lt fun hlt=>hx ⟨m',hlt,hm'⟩⟩
 let μ':Act→World→Nat:=fun a w=>if hx: ∃m,J m a w then(key a w hx).choose else 0
 have hμ: ∀a w (hx: ∃m,J m a w),J (μ' a w) a w∧ ∀m',J m' a w→μ' a w≤m':=fun a w hx=>by
  show J (if hx: ∃m,J m a w then _ else 0) a w∧ ∀m',J m' a w→(if hx: ∃m,J m a w then _ else 0)≤m'
  rw[dif_pos hx]
  exact(key a w hx).choose_spec
 refine wpIn_loop (fun a w=> ∃m,J m a w) μ' ⟨_,g0,η,φ,h0,rfl,h1,h2,h3,h4,h5⟩ ?_
 intro a w hx
 obtain⟨⟨g,η,φ,hp,hm,q1,q2,q3,q4,q5⟩,hmin⟩:=hμ a w hx
 refine wpIn_mono (round g hp η0 η φ w0 Ef w a q1 q2 q3 q4 q5) ?_
 rintro e a' w' ⟨se,s',η',φ',k,p1,p2,pe,p3,p4,p5⟩
 cases se with
 |normal=>
  have pe:e= .normal:=pe
  subst pe
  obtain⟨g',hp',hlt,hent⟩:=k
  obtain⟨η'',φ'',r1,r2,r3,r4,r5⟩:=hent η' φ' w0 Ef w' a' p2 p3 p4 p5
  have hJ:J (μ g') a' w':=⟨g',η'',φ'',hp',rfl,fun i hi=>(r1 i hi).trans (p1 i hi),r2,r3,r4,r5⟩
  refine⟨⟨_,hJ⟩,?_⟩
  have:=(hμ a' w' ⟨_,hJ⟩).2 _ hJ
  omega
 |exit i=>have pe:e= .exit i:=pe;subst pe;exact⟨_,s',η',φ',k,p1,p2,rfl,p3,p4,p5⟩
 |goto i=>have pe:e= .goto i:=pe;subst pe;exact⟨_,s',η',φ',k,p1,p2,rfl,p3,p4,p5⟩
 |ret=>have pe:e= .ret:=pe;subst pe;exact⟨_,s',η',φ',k,p1,p2,rfl,p3,p4,p5⟩
 |panic v=>obtain⟨u,hu,rfl⟩:=pe;exact⟨_,s',η',φ',k,p1,p2,⟨u,hu,rfl⟩,p3,p4,p5⟩
theorem codeP_X {E : Env} {P : Program} (hE : E.ok P) {r : Option Nat} {n : Nat} {c : Code} {s : St} {K : SE → St → Prop} (h : X E P r n c s [] fun se s ob => fcP ob fun ob => AllP ob ∧ K se s) : CodeP P r n c s K :=
 X_ok hE c s [] _ K (fun se s ob hk=>by rw[fcP_eq]at hk;exact hk.1) (fun se s ob hk=>by rw[fcP_eq]at hk;exact hk.2) h
def findT:List (Nat×SV)→Nat→Option SV
 |[],_=>none
 |(k,v)::l,i=>match Nat.beq k i with
  |true=>some v
  |false=>findT l i
def memT:List Nat→Nat→Bool
 |[],_=>false
 |k::l,i=>match Nat.beq k i with
  |true=>true
  |false=>memT l i
def mkT(keep:List Nat)(vars:List (Nat×SV)):Nat→Tm→Tm
 |_,[]=>[]
 |i,x::xs=>(match findT vars i with
  |some v=>some (none,v)
  |none=>match memT keep i with
   |true=>x
   |false=>none)::mkT keep vars (i+1) xs
def fcT(l:Tm)(k:Tm→Prop):Prop:=
 match l with
 |[]=>k []
 |none::xs=>fcT xs fun ys=>k (none::ys)
 |some (g,v)::xs=>fcV v fun v=>fcT xs fun ys=>k (some (g,v)::ys)
theorem fcT_eq: ∀(l:Tm) (k:Tm→Prop),fcT l k=k l
 |[],_=>rfl
 |none::xs,_=>fcT_eq xs _
 |some (g,v)::xs,k=>by rw[fcT,fcV_eq,fcT_eq xs]
def fcSt(s:St)(k:St→Prop):Prop:=fcT s.T fun T=>fcH s.H fun H=>fcL s.D fun D=>k ⟨T,H,D⟩
theorem fcSt_eq(s:St)(k:St→Prop):fcSt s k=k s:=by rw[fcSt,fcT_eq,fcH_eq,fcL_eq]
theorem loopP{E:Env}{P:Program}(hE:E.ok P){r:Option Nat}{n:Nat}{c:Code}{s:St}{K:SE→St→Prop}{γ:Type}(keep:List Nat)(vars:γ→List (Nat×SV))(heap:γ→SHeap→SHeap)
  (p:γ→Prop) (μ:γ→Nat) (g0:γ) (h0:p g0) (he:Ent n s ⟨mkT keep (vars g0) 0 s.T,heap g0 s.H,s.D⟩)
  (round : fcSt s fun s => ∀ g, p g → fcSt ⟨mkT keep (vars g) 0 s.T, heap g s.H, s.D⟩ fun t => X E P r n c t [] fun se s' ob => fcP ob fun ob => AllP ob ∧ match se with
   | .normal=> ∃g',p g'∧μ g'<μ g∧Ent n s' ⟨mkT keep (vars g') 0 s.T,heap g' s.H,s.D⟩
   |se=>K se s'):CodeP P r n (.loop c) s K:=by
 rw[fcSt_eq]at round
 refine codeP_loop (fun g=>⟨mkT keep (vars g) 0 s.T,heap g s.H,s.D⟩) p μ g0 h0 he fun g hg=>?_
 have:=round g hg
 rw[fcSt_eq]at this
 exact codeP_X hE this
theorem ent_tau{n:Nat}{s t:St}(τ:List Nat)(h:fcSt s fun s=>fcSt t fun t=>Fits (sel τ s.H.length) s.H τ t.H∧TmLe (sel τ s.H.length) s.T t.T∧s.D=renL (sel τ s.H.length) t.D)
  (hap:apartB τ t.H=true:=by rfl) (hfx:fixB n τ=true:=by rfl):Ent n s t:=by
 rw[fcSt_eq,fcSt_eq]at h;exact ent_of τ h.1 h.2.1 h.2.2 hap hfx
section
variable {F:Fence} {n:Nat} {P:Program} {ops:Array Oper} {Q:Exit→Act→World→Prop} {md:Region.Mode} {S:World→Prop}
theorem semAt_put(o:Oper)(hs: ∀cs b,o.op≠ .select cs b)(a:Act)(dst:Option Tmp)(v:Value)(h: ∀d,dst=some d→d ∉ o.looksAt ops)(r:Option Nat):
  o.semAt r (a.put dst v).eval=o.semAt r a.eval:=by
 unfold Oper.semAt;split
 ·rename_i l c ho;rw[resolve_congr (ρ:=(a.put dst v).eval) (ρ':=a.eval) c o.type (fun x hx=>Act.eval_put fun d hd hxd=>h d hd (by
   subst hxd;exact List.mem_append_left _ (List.mem_filterMap.2 ⟨.tmp d,by rw[ho];simpa[Op.operands]using hx,rfl⟩)))]
 ·exact execOp_put o hs a dst v h
def YieldsS(r:Option Nat)(P:Program)(ops:Array Oper)(S:World→Prop)(o:Oper)(v:Value)(a:Act):Prop:=
 (Region.wanted o (yielded ops a.tmps)=true∧ ∀w,S w→(o.semAt r a.eval).run P w= .ok (.value v) w)∨(Region.wanted o (yielded ops a.tmps)=false∧v=undef)
theorem YieldsS.wpOpIn{i:Nat}{o:Oper}{v:Value}{a:Act}(hfn: ∀f,F.fn f)(hi:ops[i]?=some o)(hy:YieldsS F.round P ops S o v a)
  {K:Act→World→Prop} {w:World} (hS:S w) (h:K (a.put o.dst v) w):wpOpIn F n P ops Q i K a w:=by
 unfold Go.wpOpIn;simp only[hi];rcases hy with⟨hw,hv⟩|⟨hw,rfl⟩
 ·simp only[hw,if_true,Oper.wpIn,hv w hS,Oper.uponIn];exact⟨fun _ _=>hfn _,h⟩
 ·simp only[hw,Bool.false_eq_true,if_false];exact⟨fun _ _=>hfn _,h⟩
theorem YieldsS.of_same{r:Option Nat}{o:Oper}{v:Value}{a a':Act}(hy:YieldsS r P ops S o v a)(he:o.semAt r a'.eval=o.semAt r a.eval)
  (hw:Region.wanted o (yielded ops a'.tmps)=Region.wanted o (yielded ops a.tmps)):YieldsS r P ops S o v a':=by
 unfold YieldsS at*;rw[he,hw];exact hy
theorem wpOpIn_putS{j:Nat}{oi oj:Oper}{v:Value}(hfn: ∀f,F.fn f)(hj:ops[j]?=some oj)(hap:oi.apart ops oj=true)
  (hsi: ∀cs b,oi.op≠ .select cs b) (hsj: ∀cs b,oj.op≠ .select cs b)
  (hQ: ∀c a w,Q (.panic c) (a.put oi.dst v) w→Q (.panic c) a w) {K:Act→World→Prop} {a:Act} {w:World}
  (hy:YieldsS F.round P ops S oi v a) (h:wpOpIn F n P ops Q j K (a.put oi.dst v) w):
  wpOpIn F n P ops Q j (fun a' w'=>YieldsS F.round P ops S oi v a'∧K (a'.put oi.dst v) w') a w:=by
 obtain⟨h1,h2,h3⟩:=Oper.apart_spec hap
 have keep: ∀(a:Act),YieldsS F.round P ops S oi v a→ ∀u,YieldsS F.round P ops S oi v (a.put oj.dst u):=fun a hy u=>
  hy.of_same (semAt_put oi hsi a oj.dst u h3 _) (wanted_put oi a oj.dst u h3)
 have keepD: ∀d,YieldsS F.round P ops S oi v {a with defers:=d::a.defers} :=fun d=>hy.of_same rfl rfl
 unfold wpOpIn at*
 simp only[hj]at*
 rw[wanted_put oj a oi.dst v h1]at h
 split
 ·rename_i hw
  simp only[hw,if_true]at h
  unfold Oper.wpIn at*
  refine⟨fun _ _=>hfn _,?_⟩
  have h:=h.2
  rw[semAt_put oj hsj a oi.dst v h1]at h
  generalize (oj.semAt F.round a.eval).run P w=r at*
  cases r with
  |ok x w'=>
   cases x<;>simp only[Oper.uponIn]at h⊢
   case value u=>exact⟨keep a hy u,by rw[←Act.put_comm a v u h2];exact h⟩
   case skip=>exact⟨keep a hy _,by rw[←Act.put_comm a v undef h2];exact h⟩
   case defer d=>
    refine⟨keep _ (keepD d) _,?_⟩
    rw[←Act.put_comm _ v undef h2,←Act.put_defers]
    exact h
   case enter f args=>
    refine⟨h.1,CallsIn.mono h.2 fun e w'' he=>?_⟩
    cases e with
    |returned u=>exact⟨keep a hy u,by rw[←Act.put_comm a v u h2];exact he⟩
    |panicked c=>exact hQ _ _ _ he
    |outgrown=>exact he
   case row row args=>exact⟨h.1,RowsIn.mono h.2 fun u w'' he=>⟨keep a hy u,by rw[←Act.put_comm a v u h2];exact he⟩⟩
   case round l f tmps assign body=>
    refine⟨h.1,RoundIn.mono h.2 fun e w'' he=>?_⟩
    cases e with
    |returned u=>exact⟨keep a hy u,by rw[←Act.put_comm a v u h2];exact he⟩
    |panicked c=>exact hQ _ _ _ he
    |outgrown=>exact he
  |halt x w'=>
   cases x<;>simp only[Oper.uponIn]at h⊢
   case panic u=>exact hQ _ _ _ h
 ·rename_i hw
  simp only[hw]at h
  exact⟨fun _ _=>hfn _,keep a hy _,by rw[←Act.put_comm a v undef h2];exact h.2⟩
def wpAnyS(F:Fence)(n:Nat)(P:Program)(md:Region.Mode)(ops:Array Oper)(Q:Exit→Act→World→Prop)(S:World→Prop):Nat→Array Bool→Act→World→Prop
 |0,listed,a,w=>Region.ready md ops listed=[]∧Q .normal a w
 |fuel+1,listed,a,w=>
  (Region.ready md ops listed=[]→Q .normal a w)∧
  ∀i∈Region.ready md ops listed,wpOpIn F n P ops Q i (fun a' w'=>S w'∧wpAnyS F n P md ops Q S fuel (listed.setIfInBounds i true) a' w') a w
theorem wpAnyIn_of_S: ∀(fuel:Nat) (listed:Array Bool) (a:Act) (w:World),wpAnyS F n P md ops Q S fuel listed a w→wpAnyIn F n P md ops Q fuel listed a w
 |0,_,_,_,h=>h
 |fuel+1,_,_,_,h=>⟨h.1,fun i hi=>wpOpIn_mono (fun a' w' h'=>wpAnyIn_of_S fuel _ a' w' h'.2) (h.2 i hi)⟩
theorem wpAnyS_first{i:Nat}{oi:Oper}{v:Value}(hfn: ∀f,F.fn f)(hi:ops[i]?=some oi)(hsel: ∀(j:Nat) (o:Oper) cs b,ops[j]?=some o→o.op≠ .select cs b)
  (hQ: ∀c a w,Q (.panic c) (a.put oi.dst v) w→Q (.panic c) a w):
  ∀(fuel:Nat) (listed:Array Bool) (a:Act) (w:World),
   (∀j oj,ops[j]?=some oj→j≠i→listed.getD j true=false→(∀e∈oj.after,Region.binds md e=true→e.on≠i)→oi.apart ops oj=true)→
   i∈Region.ready md ops listed→YieldsS F.round P ops S oi v a→S w→
   wpAnyS F n P md ops Q S fuel (listed.setIfInBounds i true) (a.put oi.dst v) w→wpAnyS F n P md ops Q S (fuel+1) listed a w:=by
 intro fuel
 induction fuel with
 |zero=>
  intro listed a w _ hr hy hS H
  refine⟨fun h=>(by rw[h]at hr;cases hr),fun j hj=>?_⟩
  by_cases hji:j=i
  ·subst hji;exact hy.wpOpIn hfn hi hS ⟨hS,H⟩
  ·have:=ready_mono hj hji
   rw[H.1]at this
   cases this
 |succ fuel ih=>
  intro listed a w hfree hr hy hS H
  refine⟨fun h=>(by rw[h]at hr;cases hr),fun j hj=>?_⟩
  by_cases hji:j=i
  ·subst hji;exact hy.wpOpIn hfn hi hS ⟨hS,H⟩
  ·have h1:=H.2 j (ready_mono hj hji)
   obtain⟨hjun,oj,hoj,hall⟩:=mem_ready.1 hj
   have hnot: ∀e∈oj.after,Region.binds md e=true→e.on≠i:=fun e he hb heq=>by
    have h1:=hall e he hb
    have h0:=(mem_ready.1 hr).1
    rw[heq]at h1
    rcases Nat.lt_or_ge i listed.size with h'|h'
    ·simp[h']at h0 h1;rw[h0]at h1;cases h1
    ·simp[Array.getElem?_eq_none h']at h1
   have h2:=wpOpIn_putS hfn hoj (hfree j oj hoj hji hjun hnot) (fun cs b=>hsel i oi cs b hi) (fun cs b=>hsel j oj cs b hoj) hQ hy h1
   have hfree': ∀k ok,ops[k]?=some ok→k≠i→(listed.setIfInBounds j true).getD k true=false→
     (∀e∈ok.after,Region.binds md e=true→e.on≠i)→oi.apart ops ok=true:=fun k ok hk hki hun hno=>by
    refine hfree k ok hk hki ?_ hno
    by_cases hjk:j=k
    ·subst hjk;exact hjun
    ·rw[getD_set_ne true hjk]at hun;exact hun
   refine wpOpIn_mono (fun a' w' h3=>⟨h3.2.1,ih (listed.setIfInBounds j true) a' w' hfree' (ready_mono hr (Ne.symm hji)) h3.1 h3.2.1 ?_⟩) h2
   rw[Array.setIfInBounds_comm _ _ hji]
   exact h3.2.2
end
def lockO:SObj→SObj
 | .dead=> .dead
 | .cells cs=> .roc cs
 | .arr sz n _ get=> .roa sz n get
 | .roc cs=> .roc cs
 | .roa sz n get=> .roa sz n get
 | .glob g cs=> .glob g cs
 | .obj I=> .obj I
 | .ext R=> .ext R
 | .memo n F has=> .memo n F has
 | .loopr T ps a b st p=> .loopr T ps a b st p
 | .vec sz n get=> .vec sz n get
 | .cmap m=> .cmap m
 | .citer l c=> .citer l c
 | .gmap g m=> .gmap g m
 | .giter g l c=> .giter g l c
 | .pack ns ob=> .pack ns ob
 | .pool _ n l g=> .pool false n l g
theorem lockO_rw{o:SObj}(h:(lockO o).rw=true):o.rw=true:=by cases o<;>simp_all[lockO,SObj.rw]
theorem lockO_foot(o:SObj)(a:Nat×Nat)(F:Nat→Prop)(b:Nat):(lockO o).foot a F b↔o.foot a F b:=by cases o<;>rfl
theorem lockO_holds{o:SObj}{η:Nam}{a:Nat×Nat}{F:Nat→Prop}{w:World}(h:o.holds η a F w):(lockO o).holds η a F w:=by
 cases o<;>try exact h
 case cells cs=>
  simp only[SObj.holds,lockO]at h⊢;obtain⟨h0,T,vs,hd,hw⟩:=h;exact⟨vs.toArray,T,(0,0),vs,hw,hd,fun j v hj=>by rw[h0];simpa using hj⟩
 case arr sz n cap get=>
  simp only[SObj.holds,lockO]at h⊢;obtain⟨h0,T,c,h1,h2,h3,h4⟩:=h;refine⟨c,T,(0,0),h1,fun k hk=>?_⟩;obtain⟨vs,p,q,r⟩:=h4 k hk;exact⟨vs,p,q,fun j v hj=>by rw[h0,Nat.zero_add];exact r j v hj⟩
def Locks:SHeap→SHeap→Prop
 |[],[]=>True
 |none::h,none::h1=>Locks h h1
 |some o::h,some o1::h1=>(o1=o∨o1=lockO o)∧Locks h h1
 |_,_=>False
theorem Locks.get: ∀{h h1:SHeap},Locks h h1→h.length=h1.length∧ ∀(i:Nat) (o1:SObj),h1[i]?=some (some o1)→ ∃o,h[i]?=some (some o)∧(o1=o∨o1=lockO o)
 |[],[],_=>⟨rfl,fun i o e=>by simp at e⟩
 |[],none::_,h|[],some _::_,h|none::_,[],h|some _::_,[],h|none::_,some _::_,h|some _::_,none::_,h=>h.elim
 |none::h,none::h1,hl=>by
  obtain⟨e,hg⟩:=Locks.get (h:=h) (h1:=h1) hl;refine⟨by simp[e],fun i o1 ho=>?_⟩;cases i with
  |zero=>simp at ho
  |succ i=>simpa using hg i o1 (by simpa using ho)
 |some o::h,some o1::h1,hl=>by
  obtain⟨h0,hl⟩:=hl;obtain⟨e,hg⟩:=Locks.get hl;refine⟨by simp[e],fun i o1' ho=>?_⟩;cases i with
  |zero=>simp at ho;subst ho;exact⟨o,rfl,h0⟩
  |succ i=>simpa using hg i o1' (by simpa using ho)
theorem Locks.get2: ∀{h h1:SHeap},Locks h h1→ ∀(i:Nat) (o:SObj),h[i]?=some (some o)→ ∃o1,h1[i]?=some (some o1)∧(o1=o∨o1=lockO o)
 |[],[],_,i,o,e=>by simp at e
 |[],none::_,h,_,_,_|[],some _::_,h,_,_,_|none::_,[],h,_,_,_|some _::_,[],h,_,_,_|none::_,some _::_,h,_,_,_|some _::_,none::_,h,_,_,_=>h.elim
 |none::h,none::h1,hl,i,o,ho=>by
  cases i with
  |zero=>simp at ho
  |succ i=>simpa using Locks.get2 (h:=h) (h1:=h1) hl i o (by simpa using ho)
 |some o::h,some o1::h1,hl,i,o',ho=>by
  cases i with
  |zero=>simp at ho;subst ho;exact⟨o1,rfl,hl.1⟩
  |succ i=>simpa using Locks.get2 hl.2 i o' (by simpa using ho)
def lockH(ks:List Nat):Nat→SHeap→SHeap
 |_,[]=>[]
 |i,none::h=>none::lockH ks (i+1) h
 |i,some o::h=>some (match memT ks i with|true=>lockO o|false=>o)::lockH ks (i+1) h
theorem lockH_ok(ks:List Nat): ∀(i:Nat) (h:SHeap),Locks h (lockH ks i h)
 |_,[]=>trivial
 |i,none::h=>lockH_ok ks (i+1) h
 |i,some o::h=>⟨by cases memT ks i<;>simp,lockH_ok ks (i+1) h⟩
def unlH:SHeap→SHeap→SHeap→SHeap
 |x::h,y::h1,z::h'=>(match y with
  |some o=>match o.rw with
   |true=>z
   |false=>x
  |none=>x)::unlH h h1 h'
 |_,_,h'=>h'
theorem unlH_length: ∀{h h1 h':SHeap},(unlH h h1 h').length=h'.length
 |_::h,_::h1,_::h'=>by simp[unlH,unlH_length (h:=h) (h1:=h1) (h':=h')]
 |[],_,_=>by simp[unlH]
 |_::_,[],_=>by simp[unlH]
 |_::_,_::_,[]=>by simp[unlH]
theorem unlH_get: ∀{h h1 h':SHeap} {i:Nat} {x:Option SObj},h.length=h1.length→(unlH h h1 h')[i]?=some x→(rwAt h1 i=true∧h'[i]?=some x)∨(h.length≤i∧h'[i]?=some x)∨(i<h.length∧rwAt h1 i=false∧h[i]?=some x)
 |y::h,y1::h1,z::h',i,x,hl,e=>by
  cases i with
  |zero=>
   simp only[unlH,List.getElem?_cons_zero,Option.some.injEq]at e;cases y1 with
   |none=>exact .inr (.inr ⟨by simp,rfl,by simpa using e⟩)
   |some o=>
    simp only at e;cases ho:o.rw with
    |true=>rw[ho]at e;exact .inl ⟨by simp[rwAt,ho],by simpa using e⟩
    |false=>rw[ho]at e;exact .inr (.inr ⟨by simp,by simp[rwAt,ho],by simpa using e⟩)
  |succ i=>
   simp only[unlH,List.getElem?_cons_succ]at e;rcases unlH_get (by simpa using hl) e with⟨h1,h2⟩|⟨h1,h2⟩|⟨h1,h2,h3⟩
   ·exact .inl ⟨by simpa[rwAt]using h1,by simpa using h2⟩
   ·exact .inr (.inl ⟨by simpa using h1,by simpa using h2⟩)
   ·exact .inr (.inr ⟨by simpa using h1,by simpa[rwAt]using h2,by simpa using h3⟩)
 |[],[],h',i,x,_,e=> .inr (.inl ⟨Nat.zero_le _,by simpa[unlH]using e⟩)
 |[],_::_,h',i,x,hl,e=>by simp at hl
 |_::_,[],h',i,x,hl,e=>by simp at hl
 |_::_,_::_,[],i,x,_,e=>by simp[unlH]at e
structure Still(η:Nam)(h1:SHeap)(w1:World)(Ef1:Nat→Prop):Prop where
 ro: ∀(i:Nat) (o:SObj) (a:Nat×Nat) (F:Nat→Prop) (b:Nat),h1[i]?=some (some o)→o.rw=false→η i=some a→o.foot a F b→b<w1.heap.size∧ ¬Ef1 b
theorem foot_ro{o:SObj}(h:o.rw=false){a:Nat×Nat}{F F':Nat→Prop}{b:Nat}(hf:o.foot a F b):o.foot a F' b:=by
 cases o<;>first|exact hf|simp[SObj.rw]at h
theorem Sat.lock{η:Nam}{φ:Feet}{h h1:SHeap}{w0:World}{Ef:Nat→Prop}{w:World}(hs:Sat η φ h w0 Ef w)(hl:Locks h h1):
    ∃Ef1:Nat→Prop,Sat η φ h1 w Ef1 w∧Still η h1 w Ef1∧(∀b,Ef1 b→ ∃i o a,h1[i]?=some (some o)∧o.rw=true∧η i=some a∧o.foot a (φ i) b):=by
  obtain⟨hlen,hg⟩:=hl.get
  have foot: ∀(i:Nat) (o1 o:SObj),h1[i]?=some (some o1)→h[i]?=some (some o)→(o1=o∨o1=lockO o)→(∀a F b,o1.foot a F b↔o.foot a F b)∧(o1.rw=true→o.rw=true):=fun i o1 o _ _ ho=>by
    rcases ho with rfl|rfl
    · exact⟨fun _ _ _=>Iff.rfl,id⟩
    · exact⟨fun a F b=>lockO_foot o a F b,lockO_rw⟩
  refine⟨fun b=> ∃i o a,h1[i]?=some (some o)∧o.rw=true∧η i=some a∧o.foot a (φ i) b,?_,⟨?_⟩,fun b hb=>hb⟩
  · exact
    { size := Nat.le_refl _
      env:= .refl w
      keep:=fun _ _ _=>rfl
      dom:=fun i a e=>by
        obtain⟨o,ho⟩:=hs.dom i a e
        obtain⟨o1,h2,_⟩:=hl.get2 i o ho
        exact⟨o1,h2⟩
      named:=fun i o1 e=>by
        obtain⟨o,ho,_⟩:=hg i o1 e
        exact hs.named i o ho
      holds:=fun i o1 a e ea=>by
        obtain⟨o,ho,rfl|rfl⟩:=hg i o1 e
        · exact hs.holds i _ a ho ea
        · exact lockO_holds (hs.holds i o a ho ea)
      bnd:=fun i o1 a b e ea hb=>by
        obtain⟨o,ho,hx⟩:=hg i o1 e
        exact hs.bnd i o a b ho ea (((foot i o1 o e ho hx).1 a _ b).1 hb)
      own:=fun i o1 a b e ea er hb=> .inl ⟨i,o1,a,e,er,ea,hb⟩
      sep:=fun i j oi oj ai aj b hij ei ej eai eaj er hb hbj=>by
        obtain⟨o,ho,hx⟩:=hg i oi ei
        obtain⟨o',ho',hx'⟩:=hg j oj ej
        exact hs.sep i j o o' ai aj b hij ho ho' eai eaj ((foot i oi o ei ho hx).2 er) (((foot i oi o ei ho hx).1 ai _ b).1 hb) (((foot j oj o' ej ho' hx').1 aj _ b).1 hbj)}
  · intro j oj aj F b ej erj eaj hbj
    have hbj':=foot_ro (F':=φ j) erj hbj
    obtain⟨o',ho',hx'⟩:=hg j oj ej
    refine⟨hs.bnd j o' aj b ho' eaj (((foot j oj o' ej ho' hx').1 aj _ b).1 hbj'),?_⟩
    rintro⟨i,oi,ai,ei,er,eai,hb⟩
    obtain⟨o,ho,hx⟩:=hg i oi ei
    by_cases hij:i=j
    · subst hij;rw[ei]at ej;cases ej;rw[er]at erj;cases erj
    · exact hs.sep i j o o' ai aj b hij ho ho' eai eaj ((foot i oi o ei ho hx).2 er) (((foot i oi o ei ho hx).1 ai _ b).1 hb) (((foot j oj o' ej ho' hx').1 aj _ b).1 hbj')
theorem Sat.unlock{η:Nam}{φ:Feet}{h h1:SHeap}{w0:World}{Ef:Nat→Prop}{w:World}(hs:Sat η φ h w0 Ef w)(hl:Locks h h1){Ef1:Nat→Prop}
    (hE: ∀b,Ef1 b→ ∃i o a,h1[i]?=some (some o)∧o.rw=true∧η i=some a∧o.foot a (φ i) b) {η':Nam} {φ':Feet} {h':SHeap} {w':World} (hp:Pin h.length η η') (hs':Sat η' φ' h' w Ef1 w') (ho:Own h1 h'):
    ∃φ'',Sat η' φ'' (unlH h h1 h') w0 Ef w':=by
  obtain⟨hlen,hg⟩:=hl.get
  have hle:η.le η':=Nam.le_of_pin hs hp
  have hkeep: ∀b,b<w.heap.size→(∀i o a,h1[i]?=some (some o)→o.rw=true→η i=some a→ ¬o.foot a (φ i) b)→w'.heap[b]?=w.heap[b]?:=fun b hb hn=>
    hs'.keep b hb fun he=>by obtain⟨i,o,a,e1,e2,e3,e4⟩:=hE b he;exact hn i o a e1 e2 e3 e4
  have hEf: ∀b,Ef1 b→Ef b∨w0.heap.size≤b:=fun b hb=>by
    obtain⟨i,o1,a,e1,e2,e3,e4⟩:=hE b hb
    obtain⟨o,ho,hx⟩:=hg i o1 e1
    rcases hx with rfl|rfl
    · exact hs.own i _ a b ho e3 e2 e4
    · exact hs.own i o a b ho e3 (lockO_rw e2) ((lockO_foot o a _ b).1 e4)
  -- a block that is as before, and a block that is carried on
  let old:Nat→Prop:=fun i=>i<h.length∧rwAt h1 i=false
  have hcase: ∀i o,(unlH h h1 h')[i]?=some (some o)→(¬old i∧h'[i]?=some (some o)∧(o.rw=true∨o= .dead))∨(old i∧h[i]?=some (some o)∧η' i=η i):=fun i o e=>by
    rcases unlH_get hlen e with⟨p1,p2⟩|⟨p1,p2⟩|⟨p1,p2,p3⟩
    · exact .inl ⟨fun hx=>(by rw[hx.2]at p1;cases p1),p2,ho i o (.inr p1) p2⟩
    · exact .inl ⟨fun hx=>(by have:=hx.1;omega),p2,ho i o (.inl (by omega)) p2⟩
    · exact .inr ⟨⟨p1,p2⟩,p3,hp i p1⟩
  classical
  let φ'':Feet:=fun i=>if old i then φ i else φ' i
  have f1: ∀i,old i→φ'' i=φ i:=fun i hi=>if_pos hi
  have f2: ∀i,¬old i→φ'' i=φ' i:=fun i hi=>if_neg hi
  have hdisj: ∀i o a b,old i→h[i]?=some (some o)→η i=some a→o.foot a (φ i) b→ ∀j o1 aj,h1[j]?=some (some o1)→o1.rw=true→η j=some aj→ ¬o1.foot aj (φ j) b:=fun i o a b hi ho' ea hb j o1 aj ej er eaj hbj=>by
    have hij:j≠i:=fun e=>by
      subst e
      have:=hi.2
      simp[rwAt,ej,er]at this
    obtain⟨oj,hoj,hx⟩:=hg j o1 ej
    rcases hx with rfl|rfl
    · exact hs.sep j i _ o aj a b hij hoj ho' eaj ea er hbj hb
    · exact hs.sep j i oj o aj a b hij hoj ho' eaj ea (lockO_rw er) ((lockO_foot oj aj _ b).1 hbj) hb
  refine⟨φ'',?_⟩
  exact
    { size := Nat.le_trans hs.size hs'.size
      env:=hs.env.trans hs'.env
      keep:=fun b hb he=>by
        rw [hs'.keep b (Nat.lt_of_lt_of_le hb hs.size) fun hx => ?_]
        · exact hs.keep b hb he
        · rcases hEf b hx with h1|h1
          · exact he h1
          · omega
      dom:=fun i a e=>by
        obtain⟨o',ho'⟩:=hs'.dom i a e
        have hi:i<(unlH h h1 h').length:=by rw[unlH_length];exact lt_of_get ho'
        obtain⟨x,hx⟩: ∃x,(unlH h h1 h')[i]?=some x:=⟨_,List.getElem?_eq_getElem hi⟩
        rcases unlH_get hlen hx with⟨p1,p2⟩|⟨p1,p2⟩|⟨p1,p2,p3⟩
        · rw[ho']at p2;cases p2;exact⟨o',hx⟩
        · rw[ho']at p2;cases p2;exact⟨o',hx⟩
        · rw[hp i p1]at e
          obtain⟨o,ho2⟩:=hs.dom i a e
          rw[ho2]at p3;cases p3;exact⟨o,hx⟩
      named:=fun i o e=>by
        rcases hcase i o e with⟨_,p2,_⟩|⟨_,p2,p3⟩
        · exact hs'.named i o p2
        · rw[p3];exact hs.named i o p2
      holds:=fun i o a e ea=>by
        rcases hcase i o e with⟨p1,p2,_⟩|⟨p1,p2,p3⟩
        · rw[f2 i p1];exact hs'.holds i o a p2 ea
        · rw[f1 i p1]
          rw[p3]at ea
          exact SObj.holds_mono hle (SObj.holds_local (hs.holds i o a p2 ea) fun b hb => hkeep b (hs.bnd i o a b p2 ea hb) (hdisj i o a b p1 p2 ea hb))
      bnd:=fun i o a b e ea hb=>by
        rcases hcase i o e with⟨p1,p2,_⟩|⟨p1,p2,p3⟩
        · rw[f2 i p1]at hb;exact hs'.bnd i o a b p2 ea hb
        · rw[f1 i p1]at hb
          rw[p3]at ea
          exact Nat.lt_of_lt_of_le (hs.bnd i o a b p2 ea hb) hs'.size
      own:=fun i o a b e ea er hb=>by
        rcases hcase i o e with⟨p1,p2,_⟩|⟨p1,p2,p3⟩
        · rw[f2 i p1]at hb
          rcases hs'.own i o a b p2 ea er hb with h1|h1
          · exact hEf b h1
          · exact .inr (Nat.le_trans hs.size h1)
        · rw[f1 i p1]at hb
          rw[p3]at ea
          exact hs.own i o a b p2 ea er hb
      sep:=fun i j oi oj ai aj b hij ei ej eai eaj er hb hbj=>by
        rcases hcase i oi ei with⟨p1,p2,_⟩|⟨p1,p2,p3⟩
        · rw[f2 i p1]at hb
          rcases hcase j oj ej with⟨q1,q2,_⟩|⟨q1,q2,q3⟩
          · rw[f2 j q1]at hbj
            exact hs'.sep i j oi oj ai aj b hij p2 q2 eai eaj er hb hbj
          · rw[f1 j q1]at hbj
            rw[q3]at eaj
            rcases hs'.own i oi ai b p2 eai er hb with h2|h2
            · obtain⟨k,ok,ak,e1,e2,e3,e4⟩:=hE b h2
              exact hdisj j oj aj b q1 q2 eaj hbj k ok ak e1 e2 e3 e4
            · have:=hs.bnd j oj aj b q2 eaj hbj;omega
        · rw[f1 i p1]at hb
          rw[p3]at eai
          rcases hcase j oj ej with⟨q1,q2,hq⟩|⟨q1,q2,q3⟩
          · rw[f2 j q1]at hbj
            rcases hq with hq|rfl
            · rcases hs'.own j oj aj b q2 eaj hq hbj with h2|h2
              · obtain⟨k,ok,ak,e1,e2,e3,e4⟩:=hE b h2
                exact hdisj i oi ai b p1 p2 eai hb k ok ak e1 e2 e3 e4
              · have:=hs.bnd i oi ai b p2 eai hb;omega
            · exact hbj
          · rw[f1 j q1]at hbj
            rw[q3]at eaj
            exact hs.sep i j oi oj ai aj b hij p2 q2 eai eaj er hb hbj}
def maskH:SHeap→SHeap
 |[]=>[]
 |none::h=>none::maskH h
 |some o::h=>some (match o.rw with|true=> .dead|false=>o)::maskH h
theorem maskH_get: ∀{h:SHeap} {i:Nat} {o:SObj},(maskH h)[i]?=some (some o)→o.rw=false∧ ∃o',h[i]?=some (some o')∧(o= .dead∨(o=o'))
 |[],i,o,e=>by simp[maskH]at e
 |none::h,i,o,e=>by
  cases i with
  |zero=>simp[maskH]at e
  |succ i=>simpa using maskH_get (h:=h) (i:=i) (o:=o) (by simpa[maskH]using e)
 |some o'::h,i,o,e=>by
  cases i with
  |zero=>
   simp only[maskH,List.getElem?_cons_zero,Option.some.injEq]at e;subst e;cases ho:o'.rw with
   |true=>exact⟨rfl,o',rfl,.inl rfl⟩
   |false=>exact⟨ho,o',rfl,.inr rfl⟩
  |succ i=>simpa using maskH_get (h:=h) (i:=i) (o:=o) (by simpa[maskH]using e)
theorem maskH_get2: ∀{h:SHeap} {i:Nat} {o:SObj},h[i]?=some (some o)→ ∃o',(maskH h)[i]?=some (some o')
 |[],i,o,e=>by simp at e
 |none::h,i,o,e=>by
  cases i with
  |zero=>simp at e
  |succ i=>simpa[maskH]using maskH_get2 (h:=h) (i:=i) (o:=o) (by simpa using e)
 |some o'::h,i,o,e=>by
  cases i with
  |zero=>exact⟨_,rfl⟩
  |succ i=>simpa[maskH]using maskH_get2 (h:=h) (i:=i) (o:=o) (by simpa using e)
def SameOld(w1:World)(Ef1:Nat→Prop)(w:World):Prop:=w1.heap.size≤w.heap.size∧(∀b,b<w1.heap.size→ ¬Ef1 b→w.heap[b]?=w1.heap[b]?)∧SameEnv w1 w
theorem Sat.mask{η:Nam}{φ:Feet}{h:SHeap}{w1:World}{Ef1:Nat→Prop}{w w':World}(hs:Sat η φ h w1 Ef1 w)(hst:Still η h w1 Ef1)(hw:SameOld w1 Ef1 w'):Sat η φ (maskH h) w1 Ef1 w':=
  { size := hw.1
    env:=hw.2.2
    keep:=fun b hb he=>hw.2.1 b hb he
    dom:=fun i a e=>by obtain⟨o,ho⟩:=hs.dom i a e;exact maskH_get2 ho
    named:=fun i o e=>by obtain⟨_,o',h1,_⟩:=maskH_get e;exact hs.named i o' h1
    holds:=fun i o a e ea=>by
      obtain⟨hr,o',h1,rfl|rfl⟩:=maskH_get e
      · exact tU
      · refine SObj.holds_local (hs.holds i _ a h1 ea) fun b hb => ?_
        obtain⟨p1,p2⟩:=hst.ro i _ a _ b h1 hr ea hb
        rw[hw.2.1 b p1 p2,hs.keep b p1 p2]
    bnd:=fun i o a b e ea hb=>by
      obtain⟨hr,o',h1,rfl|rfl⟩:=maskH_get e
      · exact hb.elim
      · exact Nat.lt_of_lt_of_le (hst.ro i _ a _ b h1 hr ea hb).1 hw.1
    own:=fun i o a b e ea er hb=>by obtain⟨hr,_⟩:=maskH_get e;rw[hr]at er;cases er
    sep:=fun i j oi oj ai aj b hij ei ej eai eaj er hb hbj=>by obtain⟨hr,_⟩:=maskH_get ei;rw[hr]at er;cases er}
def poolB:SObj→Bool
 | .pool .. =>true
 |_=>false
def poolY:Option SObj→Bool
 |some o=>poolB o
 |none=>false
def eqB:Bool→Bool→Bool
 |true,b=>b
 |false,b=>!b
def roB:SHeap→SHeap→Bool
 |some o::h1,y::h=>(ownO y||(!o.rw&&(!(match o with| .dead=>true|_=>false)&&eqB (poolB o) (poolY y))))&&roB h1 h
 |none::h1,y::h=>ownO y&&roB h1 h
 |[],y::h=>ownO y&&roB [] h
 |_,[]=>true
theorem roB_get: ∀{h1 h:SHeap} {i:Nat} {o:SObj},roB h1 h=true→h[i]?=some (some o)→o.rw=false→o= .dead∨ ∃o1,h1[i]?=some (some o1)∧o1.rw=false∧ ∀a F b,o.foot a F b→o1.foot a F b
 |some o1::h1,y::h,i,o,hr,e,ho=>by
  simp only[roB,Bool.and_eq_true,Bool.or_eq_true,Bool.not_eq_true']at hr;cases i with
  |zero=>
   simp at e;subst e;rcases hr.1 with h2|⟨h2,h3,h5⟩
   ·rcases ownO_ok h2 with h4|h4
    ·rw[ho]at h4;cases h4
    ·exact .inl h4
   ·refine .inr ⟨o1,rfl,h2,fun a F b hab=>?_⟩;cases o1<;>cases o<;>first|exact hab|(cases h3;done)|(cases h5;done)|(simp[SObj.rw]at h2;done)|(simp[SObj.rw]at ho;done)|exact hab.elim
  |succ i=>simpa using roB_get (i:=i) hr.2 (by simpa using e) ho
 |none::h1,y::h,i,o,hr,e,ho=>by
  simp only[roB,Bool.and_eq_true]at hr;cases i with
  |zero=>
   simp at e;subst e;rcases ownO_ok hr.1 with h4|h4
   ·rw[ho]at h4;cases h4
   ·exact .inl h4
  |succ i=>simpa using roB_get (i:=i) hr.2 (by simpa using e) ho
 |[],y::h,i,o,hr,e,ho=>by
  simp only[roB,Bool.and_eq_true]at hr;cases i with
  |zero=>
   simp at e;subst e;rcases ownO_ok hr.1 with h4|h4
   ·rw[ho]at h4;cases h4
   ·exact .inl h4
  |succ i=>
   rcases roB_get (i:=i) hr.2 (by simpa using e) ho with h5|⟨o1,h5,_⟩
   ·exact .inl h5
   ·simp at h5
 |some _::_,[],i,o,_,e,_|none::_,[],i,o,_,e,_|[],[],i,o,_,e,_=>by simp at e
theorem still_of{η η':Nam}{h1 h:SHeap}{w1:World}{Ef1:Nat→Prop}(hst:Still η h1 w1 Ef1)(hp:Pin h1.length η η')(hr:roB h1 h=true):Still η' h w1 Ef1:=
 ⟨fun i o a F b e er ea hb=>by
  rcases roB_get hr e er with rfl|⟨o1,e1,er1,hf⟩
  ·exact hb.elim
  ·rw[hp i (lt_of_get e1)]at ea;exact hst.ro i o1 a F b e1 er1 ea (hf a F b hb)⟩
theorem own_of{h1 h:SHeap}(hr:roB h1 h=true):Own h1 h:=fun i o hi e=>by
 cases ho:o.rw with
 |true=>exact .inl rfl
 |false=>
  rcases roB_get hr e ho with rfl|⟨o1,e1,er1,hf⟩
  ·exact .inr rfl
  ·rcases hi with hi|hi
   ·have:=lt_of_get e1;omega
   ·simp[rwAt,e1,er1]at hi
end Go.Sy
