/-
  Parts: TiB27, TiC4, Sy27, Sy28, Sy29.
-/
import Derived.Test.YthnhlkflkidemaaGreatDoorB13
import Derived.Test.YthnhlkflkidemaaGreatDoorB17
import Derived.Lib.LaidTab
import Derived.Stop.LaidErr
import Derived.ProofKit
import Derived.OpenShut
import Derived.Carry
import Derived.Recover
set_option linter.unusedVariables false
set_option linter.unusedSimpArgs false
/-
 From a contract to the statement's world: a world whose blocks are only read.
-/
namespace Go.Sy
open Go
def roO:SObj→Bool
 | .roc _=>true
 | .roa .. =>true
 | .glob .. =>true
 |_=>false
theorem roO_rw{o:SObj}(h:roO o=true):o.rw=false:=by cases o<;>first|rfl|cases h
theorem roO_bnd{o:SObj}(h:roO o=true){η:Nam}{a:Nat×Nat}{F:Nat→Prop}{w:World}(hh:o.holds η a F w){b:Nat}(hf:o.foot a F b):b<w.heap.size:=by
 have aux: ∀{ob:Obj},w.heap[a.1]?=some ob→a.1=b→b<w.heap.size:=fun e e'=>by
  subst e';rcases Nat.lt_or_ge a.1 w.heap.size with h|h
  ·exact h
  ·rw[Array.getElem?_eq_none h]at e;cases e
 cases o<;>first|cases h|skip
 all_goals simp only[SObj.holds,SObj.foot]at hh hf
 ·obtain⟨c,T,fz,vs,h1,_⟩:=hh;exact aux h1 hf
 ·obtain⟨c,T,fz,h1,_⟩:=hh;exact aux h1 hf
 ·obtain⟨_,c,T,fz,vs,h1,_⟩:=hh;exact aux h1 hf
theorem satRo{h:SHeap}{W:World}(av:List (Nat×Nat))(hl:av.length=h.length)(ho: ∀(i:Nat) x,h[i]?=some x→ ∃o,x=some o∧roO o=true)
  (hh: ∀(i:Nat) o a,h[i]?=some (some o)→av[i]?=some a→o.holds (fun j=>av[j]?) a (fun _=>False) W):
  Sat (fun j=>av[j]?) (fun _ _=>False) h W (fun _=>False) W where
 size:=Nat.le_refl _
 env:=SameEnv.refl W
 keep:=fun _ _ _=>rfl
 dom:=fun i a e=>by
  have hi:i<h.length:=by
   rcases Nat.lt_or_ge i av.length with h1|h1
   ·omega
   ·have e':av[i]?=some a:=e
    rw[List.getElem?_eq_none h1]at e'
    cases e'
  obtain⟨o,h1,h2⟩:=ho i _ (List.getElem?_eq_getElem hi)
  exact⟨o,by rw[List.getElem?_eq_getElem hi,h1]⟩
 named:=fun i o e=>by
  have hi:i<av.length:=by
   rcases Nat.lt_or_ge i h.length with h1|h1
   ·omega
   ·rw[List.getElem?_eq_none h1]at e
    cases e
  exact⟨_,List.getElem?_eq_getElem hi⟩
 holds:=fun i o a e e'=>hh i o a e e'
 bnd:=fun i o a b e e' hf=>by
  obtain⟨o',h1,h2⟩:=ho i _ e
  cases h1
  exact roO_bnd h2 (hh i o a e e') hf
 own:=fun i o a b e _ hr _=>by
  obtain⟨o',h1,h2⟩:=ho i _ e
  cases h1
  rw[roO_rw h2]at hr
  cases hr
 sep:=fun i _ o _ _ _ _ _ e _ _ _ hr=>by
  obtain⟨o',h1,h2⟩:=ho i _ e
  cases h1
  rw[roO_rw h2]at hr
  cases hr
theorem keptOf{η:Nam}{φ:Feet}{h:SHeap}{W W':World}(hs:Sat η φ h W (fun _=>False) W')(may:MemPlace→Prop):W.keptBut W' may:=by
 refine⟨hs.env.1,hs.env.2,fun i hi=>?_⟩;rw[hs.keep i hi (fun hx=>hx)];cases W.heap[i]? with
 |none=>exact rfl
 |some o=>
  cases o<;>first|exact rfl|exact⟨rfl,rfl,rfl,fun _ _=>rfl⟩|exact Or.inr ⟨rfl,rfl⟩
theorem CallP.world{P:Program}{f:FuncId}{args:List SV}{h h':SHeap}{v:SV}(hc:CallP P f args h (Ret v h')){η:Nam}{φ:Feet}{W:World}(hs:Sat η φ h W (fun _=>False) W)
  {vs:List Value} (hd:denL η args=some vs) {u:Value} (hu: ∀η',den η' v=some u):
  Calls P f vs.toArray W fun e W'=>e= .returned u∧W.heap.size≤W'.heap.size∧(∀b,b<W.heap.size→W'.heap[b]?=W.heap[b]?)∧ ∀may,W.keptBut W' may:=by
 refine(hc η φ W (fun _=>False) W vs hs hd).mono ?_
 rintro e W' ⟨ce,h'',η',φ',⟨rfl,rfl⟩,_,_,hr,hs'⟩
 obtain⟨u',h1,rfl⟩:=hr
 rw[hu η']at h1
 cases h1
 exact⟨rfl,hs'.size,fun b hb=>hs'.keep b hb (fun hx=>hx),fun may=>keptOf hs' may⟩
theorem glob_holds{P:Program}{W:World}{name:String}{k:IntKind}{zs:List Int}{g:Nat}(h:Lib.TabIs P W name k zs)(hg:P.globalNamed name=some g){η:Nam}{F:Nat→Prop} :
  (SObj.glob g (zs.map fun z=> .int k z)).holds η (g,0) F W:=by
 unfold Lib.TabIs World.var? at h;rw[hg]at h;simp only[Option.bind_some]at h;have hd:denL η (zs.map fun z=>SV.int k z)=some (zs.map fun z=>Value.int k z):=by
  clear h;induction zs with
  |nil=>rfl
  |cons z zs ih=>simp only[List.map_cons,denL,den,ih,Option.bind_some,Option.map_some]
 cases hh:W.heap[g]? with
 |none=>rw[hh]at h;cases h
 |some o=>
  rw[hh]at h;cases o<;>first|cases h|skip
  exact⟨rfl,_,_,_,_,hh,hd,fun j v e=>by simpa using e⟩
open Go Go.ChangeShapes Go.WideShapes Go.ChangeAt Go.RowKit
theorem trodAll_kept{H:Type}{enc:TypeId×Value→H}{P:Program}(hl:laidOutB P=true){W W':World}(hs:W.heap.size≤W'.heap.size)(hk: ∀b,b<W.heap.size→W'.heap[b]?=W.heap[b]?):
  ∀{ts:List TypeId} {vs:List Value} {ds:List (DataW H)} {ps:List MemPlace},(ts.all fun t=>P.readableRec t&&decide (t<P.types.size))=true→
  DataW.TrodAll enc P W 0 (fun _=>true) true ts vs ds ps→(∀x∈ps,x.block<W.heap.size)→DataW.TrodAll enc P W' 0 (fun b=>decide (b<W.heap.size)) true ts vs ds ps
 |[],[],[],ps,_,h,_=>h
 |t::ts,v::vs,d::ds,ps,ht,h,hlt=>by
  obtain⟨p,q,h1,h2,rfl⟩:=h
  simp only[List.all_cons,Bool.and_eq_true,decide_eq_true_eq]at ht
  refine⟨p,q,?_,trodAll_kept hl hs hk ht.2 h2 (fun x hx=>hlt x (List.mem_append_right _ hx)),rfl⟩
  refine WideElems.Trod_stays hl ht.1.1 ht.1.2 h1 (fun x hx=>?_) (fun x hx=>by simpa using hlt x (List.mem_append_left _ hx))
  have hb:=hlt x (List.mem_append_left _ hx)
  cases x with
  |cell b o=>exact World.cell?_of_block (w:=W) (hk b hb)
  |map b=>exact hk b hb
 |[],_::_,_,_,_,h,_=>by simp[DataW.TrodAll]at h
 |[],[],_::_,_,_,h,_=>by simp[DataW.TrodAll]at h
 |_::_,[],_,_,_,h,_=>by simp[DataW.TrodAll]at h
 |_::_,_::_,[],_,_,h,_=>by simp[DataW.TrodAll]at h
def intCells(n:Nat)(cs:List Value):Prop:= ∃zs:List Int,zs.length=n∧(∀z∈zs,InR .i64 z)∧cs=zs.map (Value.int .i64)
theorem intCells.append{n m:Nat}{a b:List Value}(ha:intCells n a)(hb:intCells m b):intCells (n+m) (a++b):=by
 obtain⟨x,h1,h2,rfl⟩:=ha;obtain⟨y,h3,h4,rfl⟩:=hb;refine⟨x++y,by simp[h1,h3],fun z hz=>?_,by simp⟩;rcases List.mem_append.1 hz with h|h
 ·exact h2 z h
 ·exact h4 z h
theorem intCells.cut{n m:Nat}{cs:List Value}(hl:cs.length=n+m)(ha:intCells n ((cs.drop 0).take n))(hb:intCells m ((cs.drop n).take m)):intCells (n+m) cs:=by
 have:=ha.append hb;rwa [List.drop_zero,List.take_of_length_le (l:=cs.drop n) (by simp;omega),List.take_append_drop]at this
section
variable {H:Type} {enc:TypeId×Value→H} {P:Program} {w:World} {base:Nat} {sp:Nat→Bool} {held:Bool}
def IntT(enc:TypeId×Value→H)(P:Program)(w:World)(base:Nat)(sp:Nat→Bool)(held:Bool)(t:TypeId)(n:Nat):Prop:=
 P.cellsOf t=n∧ ∀fuel cs x,DataW.trod enc P w base sp held fuel t cs=some x→intCells n cs
theorem IntT.int{t:TypeId}(ht:P.underlying t=some (.int .i64))(hc:P.cellsOf t=1):IntT enc P w base sp held t 1:=by
 refine⟨hc,fun fuel cs x h=>?_⟩;obtain⟨z,rfl,_,hw⟩:=DataW.trod_int ht h;refine⟨[z],rfl,fun y hy=>?_,rfl⟩;simp only[List.mem_singleton]at hy;subst hy;simpa[Lit.wf,InR,IntKind.min,IntKind.max,IntKind.signed,IntKind.bits]using hw
theorem IntT.two{t:TypeId}{f0 f1:Field}{n m:Nat}(ht:P.underlying t=some (.struct #[f0,f1]))(h0:IntT enc P w base sp held f0.type n)(h1:IntT enc P w base sp held f1.type m)(o0:f0.offset=0)(o1:f1.offset=n)(hc:P.cellsOf t=n+m):IntT enc P w base sp held t (n+m):=by
 refine⟨hc,fun fuel cs x h=>?_⟩;obtain⟨xs,k,rfl,rfl,hl,hx,hf⟩:=DataW.trod_struct ht h;have a0:=hf 0 f0 rfl;have a1:=hf 1 f1 rfl;rw[List.getElem?_eq_getElem (by simp[hx])]at a0 a1;rw[h0.1,o0]at a0;rw[h1.1,o1]at a1;exact intCells.cut (by rw[hl,hc]) (h0.2 _ _ _ a0) (h1.2 _ _ _ a1)
theorem IntT.three{t:TypeId}{f0 f1 f2:Field}{n m k:Nat}(ht:P.underlying t=some (.struct #[f0,f1,f2]))(h0:IntT enc P w base sp held f0.type n)(h1:IntT enc P w base sp held f1.type m)(h2:IntT enc P w base sp held f2.type k)(o0:f0.offset=0)(o1:f1.offset=n)(o2:f2.offset=n+m)
  (hc:P.cellsOf t=n+m+k):IntT enc P w base sp held t (n+m+k):=by
 refine⟨hc,fun fuel cs x h=>?_⟩;obtain⟨xs,q,rfl,rfl,hl,hx,hf⟩:=DataW.trod_struct ht h;have a0:=hf 0 f0 rfl;have a1:=hf 1 f1 rfl;have a2:=hf 2 f2 rfl;rw[List.getElem?_eq_getElem (by simp[hx])]at a0 a1 a2;rw[h0.1,o0]at a0;rw[h1.1,o1]at a1;rw[h2.1,o2]at a2;have b0:=h0.2 _ _ _ a0;have b1:=h1.2 _ _ _ a1;have b2:=h2.2 _ _ _ a2;have c:intCells (n+m) (cs.take (n+m)):=by
  refine intCells.cut (by simp;omega) ?_ ?_
  ·rwa [List.drop_zero,List.take_take,Nat.min_eq_left (by omega)] 
  ·rwa [List.drop_take,List.take_take,show min m (n+m-n)=m by omega]
 have d:=c.append b2;rwa [List.take_of_length_le (l:=cs.drop (n+m)) (by simp;omega),List.take_append_drop]at d
def cellI(W:World)(a:Nat×Nat)(k:Nat):Int:=
 match W.cell? ⟨a.1,a.2+k,none⟩with
 |some (.int .i64 n)=>if-9223372036854775808≤n∧n≤9223372036854775807 then n else 0
 |_=>0
theorem cellI_ok(W:World)(a:Nat×Nat)(k:Nat):InR .i64 (cellI W a k):=by
 unfold cellI;split
 ·split
  ·rename_i h;simpa[InR,IntKind.signed,IntKind.bits]using h
  ·simp[InR]
 ·simp[InR]
theorem mapM_get{α β:Type}{f:α→Option β} : ∀{l:List α} {r:List β},l.mapM f=some r→r.length=l.length∧ ∀(i:Nat) (a:α),l[i]?=some a→f a=r[i]?:=by
 intro l;induction l with
 |nil=>
  intro r h;simp at h;subst h;exact⟨rfl,fun i a h=>by simp at h⟩
 |cons x l ih=>
  intro r h;simp only[List.mapM_cons,Option.bind_eq_bind,Option.bind_eq_some_iff,Option.pure_def,Option.some.injEq]at h;obtain⟨y,h1,ys,h2,rfl⟩:=h;obtain⟨h3,h4⟩:=ih h2;refine⟨by simp[h3],fun i a ha=>?_⟩;cases i with
  |zero=>simp at ha;subst ha;simpa using h1
  |succ i=>simpa using h4 i a (by simpa using ha)
theorem sliceOpen{t e:TypeId}{sz:Nat}{v:Value}{d:DataW H}{ps:List MemPlace}{r:Reach}{b0:Nat}(ht:P.underlying t=some (.slice e))(he:IntT enc P w base sp held e sz)
  (hval:Cell.okWide P w r b0 t v) {fuel:Nat} (h:DataW.trod enc P w base sp held fuel t [v]=some (d,ps)):
  v= .slice none 0 0∨ ∃(a:Nat×Nat) (n c:Nat),v= .slice (some ⟨a.1,a.2,none⟩) n c∧n≤c∧(c:Int)≤9223372036854775807∧ ∃cs T fz,w.heap[a.1]?=some (.cells cs T fz)∧
   ∀k,k<n→ ∀j,j<sz→cs[a.2+(k*sz+j)]?=some (.int .i64 (cellI w a (k*sz+j))):=by
 rcases DataW.trod_slice ht h with⟨h1,_⟩|⟨a,len,cap,elems,rest,n,rfl,h1,_,_,hlc,_,hel,hat,_,_⟩
 ·left
  simpa using h1
 ·right
  simp only[List.cons.injEq,and_true]at h1
  subst h1
  have hv:len≤cap∧(cap:Int)≤IntKind.i64.max∧w.has P r b0 a e cap:=by
   unfold Cell.okWide at hval
   rw[ht]at hval
   unfold Cell.ok at hval
   rw[ht]at hval
   exact hval
  obtain⟨_,hc2,_,hsp,row,cells,hsh,_⟩:=hv
  unfold World.shape? at hsh
  cases hh:w.heap[a.block]? with
  |none=>rw[hh]at hsh;cases hsh
  |some o=>
   rw[hh]at hsh
   cases o with
   |map _ _|loop _|chan _|pending _ _|view _ _|number _|stringIter _ _|mapIter _ _ _ _|deferred _|coro _|finalizers _=>cases hsh
   |cells cs T fz=>
    obtain⟨ab,ao,asp⟩:=a
    simp only at hsp hh
    subst hsp
    refine⟨(ab,ao),len,cap,rfl,hlc,by simpa[IntKind.max,IntKind.signed,IntKind.bits]using hc2,cs,T,fz,hh,fun k hk j hj=>?_⟩
    have h2:=hat k hk
    rw[List.getElem?_eq_getElem (by omega)]at h2
    obtain⟨ys,h3,h4⟩:=Option.bind_eq_some_iff.1 h2
    rw[he.1]at h3
    obtain⟨zs,hz,hr,rfl⟩:=he.2 _ _ _ h4
    unfold World.cells? at h3
    split at h3
    ·obtain⟨_,h6⟩:=mapM_get h3
     have h7:=h6 j j (by simp[hj])
     rw[List.getElem?_map,List.getElem?_eq_getElem (by omega)]at h7
     have hin := hr (zs[j]'(by omega)) (List.getElem_mem _)
     have e1 : w.cell? ⟨ab, ao + (k * sz + j), none⟩ = some (.int .i64 (zs[j]'(by omega))) := by
      simpa[addr_add,he.1,Nat.add_assoc]using h7
     have e2 : cellI w (ab, ao) (k * sz + j) = zs[j]'(by omega) := by
      unfold cellI
      rw[e1]
      simp only
      rw[if_pos (by simpa[InR,IntKind.signed,IntKind.bits]using hin)]
     rw[e2]
     simpa[World.cell?,hh]using e1
    ·cases h3
end
end Go.Sy
/-
 Code that is walked up to some place, and said anew there.
-/
namespace Go.Sy
open Go
set_option maxRecDepth 100000
def XK(E:Env)(P:Program)(r:Option Nat)(n:Nat):Nat→Code→St→List Prop→KS→Prop
 |0,c,s,ob,K=>fcP ob fun ob=>AllP ob∧CodeP P r n c s fun se s=>K se s []
 |k+1,.seq a b,s,ob,K=>X E P r n a s ob (seqK (fun s ob=>XK E P r n k b s ob K) K)
 |_+1,c,s,ob,K=>X E P r n c s ob K
theorem XK_owed{E:Env}{P:Program}{r:Option Nat}{n:Nat} : ∀(k:Nat) (c:Code) (s:St) (ob:List Prop) (K:KS),Good K→XK E P r n k c s ob K→AllP ob
 |0,c,s,ob,K,_,h=>by
  simp only[XK,fcP_eq]at h;exact h.1
 |k+1,c,s,ob,K,hK,h=>by
  cases c with
  |seq a b=>
   refine X_owed a s ob _ (fun se s ob hk=>?_) h;cases se with
   |normal=>exact XK_owed k b s ob K hK hk
   |_=>exact hK _ _ _ hk
  |_=>exact X_owed _ s ob K hK h
theorem XK_ok{E:Env}{P:Program}(hE:E.ok P){r:Option Nat}{n:Nat} : ∀(k:Nat) (c:Code) (s:St) (ob:List Prop) (K:KS) (K0:SE→St→Prop),Good K→(∀se s ob,K se s ob→K0 se s)→XK E P r n k c s ob K→CodeP P r n c s K0
 |0,c,s,ob,K,K0,hK,hKK,h=>by
  simp only [XK, fcP_eq] at h;exact fun η0 η φ w0 Ef w a h1 h2 h3 h4 h5 => wpIn_mono (h.2 η0 η φ w0 Ef w a h1 h2 h3 h4 h5) fun e a w ⟨se, s, η', φ', k, rest⟩ => ⟨se, s, η', φ', hKK _ _ _ k, rest⟩
 |k+1,c,s,ob,K,K0,hK,hKK,h=>by
  cases c with
  |seq a b=>
   have hb: ∀s ob,XK E P r n k b s ob K→CodeP P r n b s K0:=fun s ob hk=>XK_ok hE k b s ob K K0 hK hKK hk
   have ha:=X_ok hE a s ob _ (fun se s=>match se with| .normal=>CodeP P r n b s K0|se=>K0 se s) (fun se s ob hk=>by
    cases se with
    |normal=>exact XK_owed k b s ob K hK hk
    |_=>exact hK _ _ _ hk) (fun se s ob hk=>by
    cases se with
    |normal=>exact hb _ _ hk
    |_=>exact hKK _ _ _ hk) h
   intro η0 η φ w0 Ef w a' h1 h2 h3 h4 h5;refine wpIn_seq (wpIn_mono (ha η0 η φ w0 Ef w a' h1 h2 h3 h4 h5) ?_);rintro e a w ⟨se,s,η',φ',k,p1,p2,pe,p3,p4,p5⟩;cases se with
   |normal=>
    have pe:e= .normal:=pe;subst pe;exact k η0 η' φ' w0 Ef w a p1 p2 p3 p4 p5
   |exit i=>
    have pe:e= .exit i:=pe;subst pe;exact⟨.exit i,s,η',φ',k,p1,p2,rfl,p3,p4,p5⟩
   |goto l=>
    have pe:e= .goto l:=pe;subst pe;exact⟨.goto l,s,η',φ',k,p1,p2,rfl,p3,p4,p5⟩
   |ret=>
    have pe:e= .ret:=pe;subst pe;exact⟨.ret,s,η',φ',k,p1,p2,rfl,p3,p4,p5⟩
   |panic v=>
    obtain⟨u,hu,rfl⟩:=pe;exact⟨.panic v,s,η',φ',k,p1,p2,⟨u,hu,rfl⟩,p3,p4,p5⟩
  |_=>exact X_ok hE _ s ob K K0 hK hKK h
theorem codeP_XK {E : Env} {P : Program} (hE : E.ok P) (k : Nat) {r : Option Nat} {n : Nat} {c : Code} {s : St} {K : SE → St → Prop} (h : fcSt s fun s => XK E P r n k c s [] fun se s ob => fcP ob fun ob => AllP ob ∧ K se s) : CodeP P r n c s K := by
 rw[fcSt_eq]at h;exact XK_ok hE k c s [] _ K (fun se s ob hk=>by rw[fcP_eq]at hk;exact hk.1) (fun se s ob hk=>by rw[fcP_eq]at hk;exact hk.2) h
theorem callP_enterK{E:Env}{P:Program}(hE:E.ok P)(k:Nat){f:Nat}{fn:Func}{c:Code}{args:List SV}{h:SHeap}{K:CE→SHeap→Prop}(hf:P.funcs[f]?=some fn)(hb:fn.body=some c)
  (hx:XK E P none h.length k c ⟨initT args fn.ntmps,h,[]⟩ [] (retKS E fn.results.toList K)):CallP P f args h K:=by
 intro η φ w0 Ef w vs hs hd;have hc:=XK_ok hE k c _ _ _ (fun se s=> ∃ob,retKS E fn.results.toList K se s ob) (retKS_good E fn.results.toList K) (fun se s ob hk=>⟨ob,hk⟩) hx η η φ w0 Ef w {tmps:=vs.toArray++Array.replicate (fn.ntmps-vs.toArray.size) undef,defers:=[]} (Pin.refl _ _) (Nat.le_refl _) hs (initT_ok hd fn.ntmps) rfl;refine calls_of_wp hf hb (wp_mono (wpIn_wide.1 hc) ?_);rintro e a w' ⟨se,s,η',φ',⟨ob,k⟩,p1,p2,pe,p3,p4,p5⟩;unfold retKS at k;split at k
 ·rename_i hD;split at k
  ·rename_i us ob' hr;rw[fcP_eq,fcV_eq]at k;obtain⟨ko,k⟩:=k;obtain⟨u,h1,h2⟩:=run_results (P:=P) hE p3 p4 hr (AllP_iff.2 fun p hp=>AllP_iff.1 ko p (List.mem_append_left _ hp));have pe:e= .normal:=pe;subst pe;rw[hD]at p5
   exact⟨by simpa[DRel]using p5.symm,u,h2,_,_,η',φ',k,p2,p1,⟨u,h1,rfl⟩,p3⟩
  ·exact k.elim
 ·rename_i hD;split at k
  ·rename_i us ob' hr;rw[fcP_eq,fcV_eq]at k;obtain⟨ko,k⟩:=k;obtain⟨u,h1,h2⟩:=run_results (P:=P) hE p3 p4 hr (AllP_iff.2 fun p hp=>AllP_iff.1 ko p (List.mem_append_left _ hp));have pe:e= .ret:=pe;subst pe;rw[hD]at p5
   exact⟨by simpa[DRel]using p5.symm,u,h2,_,_,η',φ',k,p2,p1,⟨u,h1,rfl⟩,p3⟩
  ·exact k.elim
 ·rename_i v hD;rw[fcP_eq]at k;obtain⟨u,hu,rfl⟩:=pe;rw[hD]at p5
  exact⟨by simpa[DRel]using p5.symm,_,_,η',φ',k.2,p2,p1,⟨u,hu,rfl⟩,p3⟩
 ·exact k.elim
theorem callRK{E:Env}{P:Program}(hE:E.ok P)(k:Nat){f:Nat}{fn:Func}{c:Code}{args:List SV}{h h2:SHeap}{v':SV}(hf:P.funcs[f]?=some fn)(hb:fn.body=some c)
  (hx:XK E P none h.length k c ⟨initT args fn.ntmps,h,[]⟩ [] (retKS E fn.results.toList fun ce h1=>match ce with
   | .ret v=>Ent h.length ⟨[some (none,v)],h1,[]⟩ ⟨[some (none,v')],h2,[]⟩
   | .panic _=>False)):CallP P f args h (Ret v' h2):=
 CallP.ent ((callP_enterK hE k hf hb hx).mono fun ce h1 hk=>by
  cases ce with
  |ret v=>exact⟨.ret v',h2,⟨rfl,rfl⟩,hk⟩
  |panic v=>exact hk.elim)
theorem callKK{E:Env}{P:Program}(hE:E.ok P)(k:Nat){f:Nat}{fn:Func}{c:Code}{args:List SV}{h:SHeap}{K:CE→SHeap→Prop}(hf:P.funcs[f]?=some fn)(hb:fn.body=some c)
  (hx:XK E P none h.length k c ⟨initT args fn.ntmps,h,[]⟩ [] (retKS E fn.results.toList fun ce h1=> ∃ce' h2,K ce' h2∧EntC h.length ce h1 ce' h2)):CallP P f args h K:=
 CallP.ent (callP_enterK hE k hf hb hx)
def dropSeq:Nat→Code→Code
 |0,c=>c
 |k+1,.seq _ b=>dropSeq k b
 |_+1,c=>c
def sufC(f:Func)(k:Nat):Code:=match f.body with
 |some c=>dropSeq k c
 |none=> .skip
def KRet(E:Env)(f:Func)(n:Nat)(v':SV)(h2:SHeap):SE→St→Prop:=fun se s=>retKS E f.results.toList (fun ce h1=>match ce with
 | .ret v=>Ent n ⟨[some (none,v)],h1,[]⟩ ⟨[some (none,v')],h2,[]⟩
 | .panic _=>False) se s []
theorem CodeP.part {P : Program} {r : Option Nat} {n : Nat} {c : Code} {s t : St} {K : SE → St → Prop} (hc : CodeP P r n c t K) (he : Ent n s t) : CodeP P r n c s (fun se s => fcP [] fun ob => AllP ob ∧ K se s) :=
 CodeP.pre he (hc.mono fun se s h=>by rw[fcP_eq];exact⟨trivial,h⟩)
end Go.Sy
/-
 Sy28: lists of lists of numbers: a pool of rows, how it is begun, how a row comes to it, how a row is read; blocks that are locked for a while. No program is named.
-/
namespace Go.Sy
theorem Sat.plus{η:Nam}{φ:Feet}{h:SHeap}{w0 w:World}{Ef:Nat→Prop}(s:Sat η φ h w0 Ef w){o':SObj}{a':Nat×Nat}(F':Nat→Prop)
    (hh:o'.holds (η.put h.length a') a' F' w) (hb: ∀b,o'.foot a' F' b→b<w.heap.size)
    (ho:o'.rw=true→ ∀b,o'.foot a' F' b→Ef b∨w0.heap.size≤b)
    (h1:o'.rw=true→ ∀j oj aj b,h[j]?=some (some oj)→η j=some aj→o'.foot a' F' b→ ¬oj.foot aj (φ j) b)
    (h2: ∀j oj aj b,h[j]?=some (some oj)→η j=some aj→oj.rw=true→oj.foot aj (φ j) b→ ¬o'.foot a' F' b):
    η.le (η.put h.length a')∧Sat (η.put h.length a') (fun k=>if k=h.length then F' else φ k) (h++[some o']) w0 Ef w:=by
  have hnone:η h.length=none:=s.free fun o=>by rw[List.getElem?_eq_none (Nat.le_refl _)];simp
  have hle:=Nam.le_put (a:=a') hnone
  have key: ∀j oj,(h++[some o'])[j]?=some (some oj)→(j=h.length∧oj=o')∨(j≠h.length∧h[j]?=some (some oj)):=fun j oj hj=>by
    rw[List.getElem?_append]at hj
    split at hj
    · rename_i hl;exact .inr ⟨by omega,hj⟩
    · rename_i hl
      rcases Nat.eq_or_lt_of_le (Nat.le_of_not_lt hl)with e|e
      · subst e;simp at hj;exact .inl ⟨rfl,hj.symm⟩
      · rw[List.getElem?_eq_none (by simp;omega)]at hj;cases hj
  refine⟨hle,?_⟩
  exact
    { size := s.size
      env:=s.env
      keep:=s.keep
      dom:=fun j b hj=>by
        by_cases hjn:j=h.length
        · subst hjn;exact⟨o',by simp⟩
        · rw[Nam.put_other η _ hjn]at hj
          obtain⟨o1,h1⟩:=s.dom j b hj
          have hl:j<h.length:=by
            rcases Nat.lt_or_ge j h.length with h2|h2
            · exact h2
            · rw[List.getElem?_eq_none h2]at h1;cases h1
          exact⟨o1,by rw[List.getElem?_append_left hl];exact h1⟩
      named:=fun j oj hj=>by
        rcases key j oj hj with⟨rfl,_⟩|⟨_,h3⟩
        · exact⟨a',Nam.put_same η _ _⟩
        · obtain⟨b,hb⟩:=s.named j oj h3;exact⟨b,hle j b hb⟩
      holds:=fun j oj aj hj haj=>by
        rcases key j oj hj with⟨rfl,rfl⟩|⟨h4,h3⟩
        · rw[Nam.put_same]at haj;cases haj;simpa using hh
        · rw[Nam.put_other η _ h4]at haj;simp only[if_neg h4];exact SObj.holds_mono hle (s.holds j oj aj h3 haj)
      bnd:=fun j oj aj b hj haj hfb=>by
        rcases key j oj hj with⟨rfl,rfl⟩|⟨h4,h3⟩
        · rw[Nam.put_same]at haj;cases haj;simp only[if_true]at hfb;exact hb b hfb
        · rw[Nam.put_other η _ h4]at haj;simp only[if_neg h4]at hfb;exact s.bnd j oj aj b h3 haj hfb
      own:=fun j oj aj b hj haj hr hfb=>by
        rcases key j oj hj with⟨rfl,rfl⟩|⟨h4,h3⟩
        · rw[Nam.put_same]at haj;cases haj;simp only[if_true]at hfb;exact ho hr b hfb
        · rw[Nam.put_other η _ h4]at haj;simp only[if_neg h4]at hfb;exact s.own j oj aj b h3 haj hr hfb
      sep:=fun j k oj ok aj ak b hjk hj hk haj hak hr hfb hfk=>by
        rcases key j oj hj with⟨rfl,rfl⟩|⟨h4,h3⟩
        · rw[Nam.put_same]at haj;cases haj
          simp only[if_true]at hfb
          rcases key k ok hk with⟨rfl,_⟩|⟨h5,h6⟩
          · exact hjk rfl
          · rw[Nam.put_other η _ h5]at hak
            simp only[if_neg h5]at hfk
            exact h1 hr k ok ak b h6 hak hfb hfk
        · rw[Nam.put_other η _ h4]at haj
          simp only[if_neg h4]at hfb
          rcases key k ok hk with⟨rfl,rfl⟩|⟨h5,h6⟩
          · rw[Nam.put_same]at hak;cases hak
            simp only[if_true]at hfk
            exact h2 j oj aj b h3 haj hr hfb hfk
          · rw[Nam.put_other η _ h5]at hak
            simp only[if_neg h5]at hfk
            exact s.sep j k oj ok aj ak b hjk h3 h6 haj hak hr hfb hfk}
theorem pin_put{η:Nam}{h:SHeap}{n:Nat}(hn:n≤h.length)(a:Nat×Nat):Pin n η (η.put h.length a):=fun i hi=>Nam.put_other η a (by omega)
theorem entRow{n:Nat}{T T':Tm}{H:SHeap}{D:List SV}{j np:Nat}{len:Nat→Nat}{get:Nat→Nat→Int}(hj:H[j]?=some (some (.pool false np len get)))(k:Nat)(hk:k<np)(hpos:0<len k)
  (hT': ∀(η:Nam) (b:Nat) (tm:Array Value),η H.length=some (b,0)→(∀l c,den η (.row j k l c)=some (.slice (some ⟨b,0,none⟩) l c))→TRel η T tm→TRel η T' tm):
  Ent n ⟨T, H, D⟩ ⟨T', H ++ [some (.roa 1 (len k) fun m => [.int .i64 (get k m)])], D⟩ := by
 intro η φ w0 Ef w a hn hs hT hD
 obtain⟨aj,haj⟩:=hs.named j _ hj
 rcases hs.holds j _ aj hj haj k hk with⟨_,h0⟩|⟨b,Ty,c,h1,h3,h4⟩
 ·omega
 have ft: ∀x,x=b→(SObj.pool false np len get).foot aj (φ j) x:=fun x e=>⟨k,by rw[e];exact h1⟩
 obtain ⟨hle, hs2⟩ := hs.plus (o' := .roa 1 (len k) fun m => [.int .i64 (get k m)]) (a' := (b, 0)) (fun _ => False)
  ⟨c,Ty,(0,0),h3,fun m hm=>⟨[.int .i64 (get k m)],rfl,rfl,fun i v hi=>by
   cases i with
   |zero=>simp at hi;subst hi;simpa using h4 m hm
   |succ i=>simp at hi⟩⟩
  (fun x hx=>hs.bnd j _ aj x hj haj (ft x (Eq.symm hx))) (fun hr=>by cases hr) (fun hr=>by cases hr)
  (fun i oi ai x hi hai hr hfx hx=>by
   by_cases hij:i=j
   ·subst hij;rw[hj]at hi;cases hi;cases hr
   ·exact hs.sep i j oi _ ai aj x hij hi hj hai haj hr hfx (ft x (Eq.symm hx)))
 refine⟨_,_,pin_put hn _,by simp only[List.length_append,List.length_singleton];exact Nat.le_trans hn (Nat.le_succ _),hs2,hT' _ b _ (Nam.put_same η _ _) (fun l c=>?_) (hT.mono hle),hD.mono hle⟩
 simp only[den,hle j aj haj,Option.bind_some,h1,rowV]
theorem CallP.row{P:Program}{f:FuncId}{args args':List SV}{h:SHeap}{K:CE→SHeap→Prop}{j np:Nat}{len:Nat→Nat}{get:Nat→Nat→Int}(hj:h[j]?=some (some (.pool false np len get)))(k:Nat)(hk:k<np)(hpos:0<len k)
  (ha: ∀(η:Nam) (b:Nat),η h.length=some (b,0)→(∀l c,den η (.row j k l c)=some (.slice (some ⟨b,0,none⟩) l c))→denL η args'=denL η args)
  (hc : CallP P f args' (h ++ [some (.roa 1 (len k) fun m => [.int .i64 (get k m)])]) K) : CallP P f args h K :=
 CallP.pre (entRow hj k hk hpos fun η b tm h1 h2 hT=>by
  obtain⟨tl⟩:=tm
  have:=ha η b h1 h2
  rw[args_trel hT]at this
  exact trel_args this) hc
theorem CallP.entR{P:Program}{f:FuncId}{args:List SV}{h h1 h2:SHeap}{v v':SV}(hc:CallP P f args h (Ret v h1))(he:Ent h.length ⟨[some (none,v)],h1,[]⟩ ⟨[some (none,v')],h2,[]⟩):CallP P f args h (Ret v' h2):=
 CallP.ent (hc.mono fun ce h1' hk=>by
  obtain⟨rfl,rfl⟩:=hk;exact⟨.ret v',h2,⟨rfl,rfl⟩,he⟩)
structure PushRel(η:Nam)(i j L n:Nat):Prop where
 at': ∃ai aj aL:Nat×Nat,η i=some ai∧ai.2=0∧η j=some aj∧η L=some aL∧(∀k,k<n→padr aL.2 k=padr aj.2 k)∧padr aL.2 n=ai.1+1
theorem PushRel.old{η:Nam}{i j L n:Nat}(h:PushRel η i j L n){k:Nat}(hk:k<n)(l c:Nat):den η (.row j k l c)=den η (.row L k l c):=by
 obtain⟨ai,aj,aL,h1,h2,h3,h4,h5,h6⟩:=h.at';simp only[den,h3,h4,Option.bind_some,h5 k hk]
theorem PushRel.new{η:Nam}{i j L n:Nat}(h:PushRel η i j L n)(l c:Nat):den η (.slice i 1 0 l c)=den η (.row L n l c):=by
 obtain⟨ai,aj,aL,h1,h2,h3,h4,h5,h6⟩:=h.at';simp only[den,h1,h4,Option.bind_some,Option.map_some,h6,rowV,h2]
def IsRec2(fn:Func)(k1 k2:Nat)(rest:Code):Prop:=
 ∃id ty0 pos0 a0 ty1 pos1 a1,fn.body=some (.seq (.region id #[⟨some k1,.call {callee:= .builtin .recover,args:= #[],argTypes:= #[]},ty0,pos0,a0,none⟩,
  ⟨some k2,.assign (.tmp k1),ty1,pos1,a1,none⟩] false) rest)∧k1≠k2∧k1<fn.ntmps∧fn.results= #[]
theorem leaves_rec2{E:Env}{P:Program}(hE:E.ok P){g k1 k2:Nat}{gf:Func}{rest:Code}(hg:P.funcs[g]?=some gf)(hr:IsRec2 gf k1 k2 rest)(hgE:E.fn g=true){fn:Func}{tmps:Array Value}{R:Ending→World→Prop}{u:FrameMode}{x pv:Value}{w:World}
  (hu:(u= .returning∧x= .nilIface)∨(u= .panicking [{v:=x,recovered:=false}]))
  (hc:rest.wp P (fun e a w'=>match e with
   | .normal| .ret=>a.defers=[]∧ ∃v,(results fn tmps).run P w'= .ok v w'∧R (.returned v) w'
   |_=>False) {tmps:=((#[pv]++Array.replicate (gf.ntmps-1) undef).setIfInBounds k1 x).setIfInBounds k2 x,defers:=[]} w):
  Leaves P fn tmps R [{target:= .fn (.func g) #[],args:= #[pv]}] u w:=by
 obtain⟨id,ty0,pos0,a0,ty1,pos1,a1,hb,hne,hk1,hres⟩:=hr
 refine leaves_cons (f:=g) (args:= #[pv]) (by rcases hu with⟨rfl,_⟩|rfl<;>simp) ?_ ?_
 ·simp only[invoke]
  rw[run_callFunc hE hgE]
  rfl
 refine callsD_of_wpS hg hb fun c₀ cs hmode=>wpS_seq (wpS_region ?_)
 have hrec: ∃u',(match recoverD (c₀::cs)with
   |some (v,cs')=>v=x∧cs'={c₀ with mode:=u'} ::cs
   |none=>x= .nilIface∧c₀::cs={c₀ with mode:=u'} ::cs)∧settle u'= .returning:=by
  rcases hu with⟨rfl,rfl⟩|rfl
  ·refine⟨.returning,?_,rfl⟩
   simp only[recoverD,hmode]
   exact⟨trivial,by rw[←hmode]⟩
  ·refine⟨.panicking [{v:=x,recovered:=true}],?_,rfl⟩
   simp only[recoverD,hmode]
   exact⟨trivial,trivial⟩
 obtain⟨u',hrec,hset⟩:=hrec
 have hrun0: ∀ρ:Operand→Value,(execOp ρ ⟨some k1,.call {callee:= .builtin .recover,args:= #[],argTypes:= #[]},ty0,pos0,a0,none⟩).run P w= .ok .recover w:=fun ρ=>by
  simp[execOp,resolve,invoke,builtin]
 have hrun1: ∀(ρ:Operand→Value),(execOp ρ ⟨some k2,.assign (.tmp k1),ty1,pos1,a1,none⟩).run P w= .ok (.value (ρ (.tmp k1))) w:=fun ρ=>by
  simp[execOp]
 have fin: ∀(a:Act) (cs':List Frame),a.tmps=(#[pv]++Array.replicate (gf.ntmps-1) undef).setIfInBounds k1 x→a.defers=[]→cs'={c₀ with mode:=u'} ::cs→
   wpOpsS P #[⟨some k1,.call {callee:= .builtin .recover,args:= #[],argTypes:= #[]},ty0,pos0,a0,none⟩,⟨some k2,.assign (.tmp k1),ty1,pos1,a1,none⟩]
    (Exit.thenS (rest.wpS P (bodyPostS P gf c₀ cs fun e u' w'=>match e,u',w' with
     | .returned _,u',w'=>Leaves P fn tmps R [] (settle u') w'
     | .panicked chain,u',w'=>Leaves P fn tmps R [] (raised u' chain) w'
     | .outgrown,_,w'=>R .outgrown w')) (bodyPostS P gf c₀ cs fun e u' w'=>match e,u',w' with
     | .returned _,u',w'=>Leaves P fn tmps R [] (settle u') w'
     | .panicked chain,u',w'=>Leaves P fn tmps R [] (raised u' chain) w'
     | .outgrown,_,w'=>R .outgrown w')) [1] a cs' w:=by
  intro a cs' ht hd hcs
  have e1:a.eval (.tmp k1)=x:=by
   have hlt:k1<1+(gf.ntmps-1):=by omega
   simp[Act.eval,ht,hlt]
  have hr1:=hrun1 a.eval
  rw[e1]at hr1
  simp only[wpOpsS,List.getElem?_toArray,List.getElem?_cons_succ,List.getElem?_cons_zero,Region.wanted,if_true,hr1,Oper.upon]
  show rest.wpS P _ (a.put (some k2) x) cs' w
  refine wpS_of_wp ?_
  have ea:a.put (some k2) x={tmps:=((#[pv]++Array.replicate (gf.ntmps-1) undef).setIfInBounds k1 x).setIfInBounds k2 x,defers:=[]} :=by
   simp[Act.put,ht,hd]
  rw[ea]
  refine wp_mono hc ?_
  intro e a2 w' he
  have fin2:(a2.defers=[]∧ ∃v,(results fn tmps).run P w'= .ok v w'∧R (.returned v) w')→a2.defers=[]∧ ∃u',cs'={c₀ with mode:=u'} ::cs∧ ∃v,(results gf a2.tmps).run P w'= .ok v w'∧Leaves P fn tmps R [] (settle u') w':=by
   rintro⟨hd2,v,hv,hR⟩
   refine⟨hd2,u',hcs,.tuple #[],by simp[results,hres],?_⟩
   rw[hset]
   exact⟨v,hv,hR⟩
  cases e with
  |normal=>exact fin2 he
  |ret=>exact fin2 he
  |panic c=>exact he.elim
  |exit id=>exact he.elim
  |goto l=>exact he.elim
  |outgrown=>exact he.elim
 have hlist:List.range (#[(⟨some k1,.call {callee:= .builtin .recover,args:= #[],argTypes:= #[]},ty0,pos0,a0,none⟩:Oper),⟨some k2,.assign (.tmp k1),ty1,pos1,a1,none⟩]:Array Oper).size=[0,1]:=rfl
 rw[hlist,wpOpsS]
 simp only[List.getElem?_toArray,List.getElem?_cons_zero,Region.wanted,if_true,hrun0]
 cases hrd:recoverD (c₀::cs)with
 |none=>
  rw[hrd]at hrec
  refine fin _ _ ?_ rfl hrec.2
  simp[Act.put,hrec.1]
 |some p=>
  obtain⟨v,cs'⟩:=p
  rw[hrd]at hrec
  obtain⟨rfl,rfl⟩:=hrec
  exact fin _ _ (by simp[Act.put]) rfl rfl
def endK(E:Env)(rs:List ResultVar)(T:Tm)(K:SV→SHeap→Prop):KS:=fun se s' ob'=>
 match s'.D with
 |[]=>match se with
  | .normal=>match resL E ⟨T,s'.H,[]⟩ rs with
   | some (vs, ob2) => fcP (ob2 ++ ob') fun ob' => AllP ob' ∧ fcV (resOne vs) fun v => fcL s'.H fun H' => K v H'
   |none=>False
  | .ret=>match resL E ⟨T,s'.H,[]⟩ rs with
   | some (vs, ob2) => fcP (ob2 ++ ob') fun ob' => AllP ob' ∧ fcV (resOne vs) fun v => fcL s'.H fun H' => K v H'
   |none=>False
  |_=>False
 |_=>False
theorem endK_good(E:Env)(rs:List ResultVar)(T:Tm)(K:SV→SHeap→Prop):Good (endK E rs T K):=by
 intro se s' ob' hk;unfold endK at hk;split at hk
 ·split at hk
  ·split at hk
   ·rw[fcP_eq]at hk;exact AllP_app hk.1
   ·exact hk.elim
  ·split at hk
   ·rw[fcP_eq]at hk;exact AllP_app hk.1
   ·exact hk.elim
  ·exact hk.elim
 ·exact hk.elim
def endR(E:Env)(P:Program)(rs:List ResultVar)(g n k1 k2:Nat)(rest:Code)(K:SV→SHeap→Prop)(x:SV)(s:St)(ob:List Prop):Prop:=
 match s.D with
 |[.fn (.func g') [p] []]=>match Nat.beq g' g with
  | true => fcP ob fun ob => AllP ob ∧ fcL (putT (putT (initT [p] n) (some k1) (some (none, x))) (some k2) (some (none, x))) fun T => X E P none s.H.length rest ⟨T, s.H, []⟩ [] (endK E rs s.T K)
  |false=>False
 |_=>False
def retKR(E:Env)(P:Program)(rs:List ResultVar)(g n k1 k2:Nat)(rest:Code)(K:SV→SHeap→Prop):KS:=fun se s ob=>match se with
 | .normal=>endR E P rs g n k1 k2 rest K .inil s ob
 | .ret=>endR E P rs g n k1 k2 rest K .inil s ob
 | .panic (.iface t v)=>endR E P rs g n k1 k2 rest K (.iface t v) s ob
 |_=>False
theorem endR_owed{E:Env}{P:Program}{rs:List ResultVar}{g n k1 k2:Nat}{rest:Code}{K:SV→SHeap→Prop}{x:SV}{s:St}{ob:List Prop}(h:endR E P rs g n k1 k2 rest K x s ob):AllP ob:=by
 unfold endR at h;split at h
 ·split at h
  ·rw[fcP_eq]at h;exact h.1
  ·exact h.elim
 ·exact h.elim
theorem retKR_good(E:Env)(P:Program)(rs:List ResultVar)(g n k1 k2:Nat)(rest:Code)(K:SV→SHeap→Prop):Good (retKR E P rs g n k1 k2 rest K):=by
 intro se s ob h;unfold retKR at h;split at h
 ·exact endR_owed h
 ·exact endR_owed h
 ·exact endR_owed h
 ·exact h.elim
theorem callDR{E:Env}{P:Program}(hE:E.ok P){f:Nat}{fn:Func}{c:Code}{args:List SV}{h:SHeap}{K:CE→SHeap→Prop}(hf:P.funcs[f]?=some fn)(hb:fn.body=some c)
  {g k1 k2:Nat} {gf:Func} {rest:Code} (hg:P.funcs[g]?=some gf) (hr:IsRec2 gf k1 k2 rest) (hgE:E.fn g=true)
  (hx:X E P none h.length c ⟨initT args fn.ntmps,h,[]⟩ [] (retKR E P fn.results.toList g gf.ntmps k1 k2 rest fun v h1=> ∃ce' h2,K ce' h2∧EntC h.length (.ret v) h1 ce' h2)):CallP P f args h K:=by
 refine CallP.ent ?_
 intro η φ w0 Ef w vs hs hd
 let KD:=retKR E P fn.results.toList g gf.ntmps k1 k2 rest fun v h1=> ∃ce' h2,K ce' h2∧EntC h.length (.ret v) h1 ce' h2
 have hc:=X_ok hE c _ _ _ (fun se s=> ∃ob,KD se s ob) (retKR_good E P fn.results.toList g gf.ntmps k1 k2 rest _) (fun se s ob hk=>⟨ob,hk⟩) hx η η φ w0 Ef w {tmps:=vs.toArray++Array.replicate (fn.ntmps-vs.toArray.size) undef,defers:=[]} (Pin.refl _ _) (Nat.le_refl _) hs (initT_ok hd _) rfl
 refine calls_of_wp_defers hf hb (wp_mono (wpIn_wide.1 hc) ?_)
 rintro e a w' ⟨se,s,η',φ',⟨ob,k⟩,p1,p2,pe,p3,p4,p5⟩
 have main: ∀(x:SV) (xv:Value) (u:FrameMode),endR E P fn.results.toList g gf.ntmps k1 k2 rest (fun v h1=> ∃ce' h2,K ce' h2∧EntC h.length (.ret v) h1 ce' h2) x s ob→den η' x=some xv→
   ((u= .returning∧xv= .nilIface)∨u= .panicking [{v:=xv,recovered:=false}])→
   Leaves P fn a.tmps (fun e w'=> ∃ce h1 η1 φ1,(∃ce' h2,K ce' h2∧EntC h.length ce h1 ce' h2)∧h.length≤h1.length∧Pin h.length η η1∧cRel η1 ce e∧Sat η1 φ1 h1 w0 Ef w') a.defers u w':=by
  intro x xv u hk hxv hu
  unfold endR at hk
  split at hk
  ·rename_i g' p hD
   split at hk
   ·rename_i hgg
    have hgg:g'=g:=by simpa using hgg
    subst hgg
    rw[fcP_eq,fcL_eq]at hk
    obtain⟨_,hcall⟩:=hk
    have hD':=p5
    rw[hD]at hD'
    unfold DRel at hD'
    simp only[List.mapM_cons,List.mapM_nil,denD,denL,Option.bind_eq_bind,Option.bind_some,Option.map_some,Option.bind_eq_some_iff,Option.pure_def,Option.some.injEq]at hD'
    obtain⟨d,⟨capv,⟨pv,hpv,rfl⟩,rfl⟩,hds⟩:=hD'
    rw[←hds]
    refine leaves_rec2 hE hg hr hgE (x:=xv) hu ?_
    have ht0:TRel η' (initT [p] gf.ntmps) (#[pv]++Array.replicate (gf.ntmps-1) undef):=initT_ok (vs:=[pv]) (by simp[denL,hpv]) gf.ntmps
    have ht1:=TRel.put (a:={tmps:= #[pv]++Array.replicate (gf.ntmps-1) undef,defers:=[]}) ht0 (some k1) (g:=none) (sv:=x) (v:=xv) (fun _=>hxv) (fun h=>by cases h)
    have ht2:=TRel.put (a:={tmps:=(#[pv]++Array.replicate (gf.ntmps-1) undef).setIfInBounds k1 xv,defers:=[]}) ht1 (some k2) (g:=none) (sv:=x) (v:=xv) (fun _=>hxv) (fun h=>by cases h)
    have hin:=X_ok hE rest ⟨putT (putT (initT [p] gf.ntmps) (some k1) (some (none,x))) (some k2) (some (none,x)),s.H,[]⟩ [] (endK E fn.results.toList s.T _) (fun se s'=> ∃ob',endK E fn.results.toList s.T _ se s' ob') (endK_good E fn.results.toList s.T _) (fun se s ob hk=>⟨ob,hk⟩) hcall η' η' φ' w0 Ef w' _ (Pin.refl _ _) (Nat.le_refl _) p3 ht2 rfl
    refine wp_mono (wpIn_wide.1 hin) ?_
    rintro e2 a2 w2 ⟨se2,s2,η2,φ2,⟨ob2,k2'⟩,q1,q2,qe,q3,q4,q5⟩
    unfold endK at k2'
    split at k2'
    ·rename_i hD2
     have hd2:a2.defers=[]:=by
      rw[hD2]at q5
      simpa[DRel]using q5.symm
     have fin:(match resL E ⟨s.T,s2.H,[]⟩ fn.results.toList with
       | some (vs, ob3) => fcP (ob3 ++ ob2) fun ob' => AllP ob' ∧ fcV (resOne vs) fun v => fcL s2.H fun H' => ∃ ce' h2, K ce' h2 ∧ EntC h.length (.ret v) H' ce' h2
       |none=>False)→a2.defers=[]∧ ∃v,(results fn a.tmps).run P w2= .ok v w2∧ ∃ce h1 η1 φ1,(∃ce' h2,K ce' h2∧EntC h.length ce h1 ce' h2)∧h.length≤h1.length∧Pin h.length η η1∧cRel η1 ce (.returned v)∧Sat η1 φ1 h1 w0 Ef w2:=by
      intro hk1
      split at hk1
      ·rename_i us ob' hres
       simp only[fcP_eq,fcV_eq,fcL_eq]at hk1
       obtain⟨ho,hk1⟩:=hk1
       have ho':AllP ob':=by
        rw[AllP_iff]at ho⊢
        exact fun p hp=>ho p (List.mem_append_left _ hp)
       have hle:=Nam.le_of_pin p3 q1
       obtain⟨u2,hu2,hrun⟩:=run_results (P:=P) (s:=⟨s.T,s2.H,[]⟩) hE q3 (p4.mono hle) hres ho'
       exact⟨hd2,u2,hrun,.ret (resOne us),s2.H,η2,φ2,hk1,Nat.le_trans p2 q2,p1.trans q1 p2,⟨u2,hu2,rfl⟩,q3⟩
      ·exact hk1.elim
     split at k2'
     ·have qe:e2= .normal:=qe
      subst qe
      exact fin k2'
     ·have qe:e2= .ret:=qe
      subst qe
      exact fin k2'
     ·exact k2'.elim
    ·exact k2'.elim
   ·exact hk.elim
  ·exact hk.elim
 show bodyPostD P fn _ e a w'
 have k:retKR E P fn.results.toList g gf.ntmps k1 k2 rest (fun v h1=> ∃ce' h2,K ce' h2∧EntC h.length (.ret v) h1 ce' h2) se s ob:=k
 unfold retKR at k
 split at k
 ·have pe:e= .normal:=pe
  subst pe
  exact main .inil .nilIface .returning k rfl (.inl ⟨rfl,rfl⟩)
 ·have pe:e= .ret:=pe
  subst pe
  exact main .inil .nilIface .returning k rfl (.inl ⟨rfl,rfl⟩)
 ·rename_i t v _
  obtain⟨u,hu,rfl⟩:=pe
  exact main (.iface t v) u (.panicking [{v:=u,recovered:=false}]) k hu (.inr rfl)
 ·exact k.elim
end Go.Sy
