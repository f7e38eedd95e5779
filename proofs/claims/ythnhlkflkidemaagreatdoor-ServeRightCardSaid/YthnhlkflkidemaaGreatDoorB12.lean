/-
  Parts: Sy19, Sy20, Sy21.
-/
import Derived.Test.YthnhlkflkidemaaGreatDoorB11
import Derived.Recover
set_option linter.unusedVariables false
set_option linter.unusedSimpArgs false
/-
 Sy19: regions that draw their order, by a plan: which operations are taken first, and which may come up. No program is named.
-/
namespace Go.Sy
inductive Plan where
 |done
 |eager (i:Nat) (p:Plan)
 |alt (i:Nat) (p q:Plan)
 |no
def eg:List Nat→Plan→Plan
 |[],p=>p
 |x::l,p=> .eager x (eg l p)
def onlyB(i:Nat)(l:List Nat)(b:Bool):Bool:=match l with
 |[j]=>Nat.beq i j
 |l=>l.contains i&&b
theorem onlyB_ok{i:Nat}{l:List Nat}{b:Bool}(h:onlyB i l b=true):l=[i]∨i∈l∧b=true:=by
 unfold onlyB at h;split at h
 ·exact .inl (by rw[Nat.eq_of_beq_eq_true h])
 ·rw[Bool.and_eq_true]at h;exact .inr ⟨by simpa using h.1,h.2⟩
def chk(ops:Array Oper):Plan→Nat→Array Bool→Option (List Nat)→Bool
 | .done,_,l,none=>(Region.ready .any ops l).isEmpty
 | .eager i p,f+1,l,none=>onlyB i (Region.ready .any ops l) (Region.free .any ops l i)&&chk ops p f (l.setIfInBounds i true) none
 | .alt i p q,f+1,l,none=>match Region.ready .any ops l with
  |j::rem=>Nat.beq i j&&chk ops p f (l.setIfInBounds i true) none&&chk ops q (f+1) l (some rem)
  |[]=>false
 | .alt i p q,f+1,l,some (j::rem)=>Nat.beq i j&&chk ops p f (l.setIfInBounds i true) none&&chk ops q (f+1) l (some rem)
 | .no,_,_,some []=>true
 |_,_,_,_=>false
def checkPlan(ops:Array Oper)(p:Plan):Bool:=Region.noSelect ops&&chk ops p ops.size (Array.replicate ops.size false) none
def eagerOp(E:Env)(ops:List Oper)(o:Oper)(T:Tm)(Hm:SHeap):Option (Option Bool×SV×List Prop):=
 match guardOf ops o T with
 |none=>none
 |some G=>match pickOf o.op with
  |some (c,a,b)=>match ldG T Hm c,ldG T Hm a,ldG T Hm b with
   |some (gc,.bool cv),some (ga,av),some (gb,bv)=>some (G,selV cv av bv,[under G (gc.getD true=true),under G (cv=true→ga.getD true=true),under G (cv=false→gb.getD true=true)])
   |_,_,_=>none
  |none=>match ev1 E o.op (ldv T Hm) (Hm++[none]) Hm.length with
   |some q=>match q.wr,q.nw with
    |none,none=>some (G,q.v,gObs G T Hm o.op.operands.toList++q.ob.map (under G))
    |_,_=>none
   |none=>none
theorem eager_ok{E:Env}{P:Program}(hE:E.ok P){ops:List Oper}{o:Oper}{T:Tm}{Hm:SHeap}{G:Option Bool}{v:SV}{obs:List Prop}(h:eagerOp E ops o T Hm=some (G,v,obs))(hob: ∀p∈obs,p)
  {η:Nam} {a:Act} (hT:TRel η T a.tmps) {S:World→Prop} (hS: ∀w,S w→ ∃φ w0 Ef,Sat η φ Hm w0 Ef w) (hex: ∃w,S w) (r:Option Nat):
  ∃u,(G.getD true=true→den η v=some u)∧(G.getD true=false→u=undef)∧YieldsS r P ops.toArray S o u a:=by
 unfold eagerOp at h
 split at h
 ·cases h
 ·rename_i G' hG
  have hw:=guardOf_ok hG hT
  split at h
  ·rename_i c x y hp
   have ho:o.op= .pick c x y:=by
    unfold pickOf at hp
    split at hp
    ·rename_i _ _ _ e
     simp only[Option.some.injEq,Prod.mk.injEq]at hp
     obtain⟨rfl,rfl,rfl⟩:=hp
     exact e
    ·cases hp
   split at h
   ·rename_i gc cv ga av gb bv hc hx hy
    simp only[Option.some.injEq,Prod.mk.injEq]at h
    obtain⟨rfl,rfl,rfl⟩:=h
    have h1:=hob (under _ _) (List.mem_cons_self ..)
    have h2:=hob (under _ _) (List.mem_cons_of_mem _ (List.mem_cons_self ..))
    have h3:=hob (under _ _) (List.mem_cons_of_mem _ (List.mem_cons_of_mem _ (List.mem_cons_self ..)))
    cases hg:G'.getD true with
    |false=>exact⟨undef,fun h=>(by cases h),fun _=>rfl,.inr ⟨by rw[hw,hg],rfl⟩⟩
    |true=>
     obtain⟨w,hSw⟩:=hex
     obtain⟨φ,w0,Ef,hs⟩:=hS w hSw
     have hdc:=ldG_ok hs hT hc (under_ok h1 hg)
     simp only[den,Option.some.injEq]at hdc
     refine⟨if cv then a.eval x else a.eval y,fun _=>selV_ok (fun hcv=>?_) (fun hcv=>?_),fun h=>(by cases h),.inl ⟨by rw[hw,hg],fun w' _=>?_⟩⟩
     ·rw[if_pos hcv];exact ldG_ok hs hT hx (under_ok h2 hg hcv)
     ·rw[if_neg (by simp[hcv])];exact ldG_ok hs hT hy (under_ok h3 hg hcv)
     ·rw[Oper.semAt_eq _ _ _ (fun c' e=>by rw[ho]at e;cases e)]
      simp only[execOp,ho,←hdc,asBool,Sem.run_bind,Sem.run_pure,Result.andThen_ok]
   ·cases h
  ·split at h
   ·rename_i q hq
    split at h
    ·rename_i hwr hnw
     simp only[Option.some.injEq,Prod.mk.injEq]at h
     obtain⟨rfl,rfl,rfl⟩:=h
     cases hg:G'.getD true with
     |false=>exact⟨undef,fun h=>(by cases h),fun _=>rfl,.inr ⟨by rw[hw,hg],rfl⟩⟩
     |true=>
      have hsem:o.semAt r a.eval=execOp a.eval o:=Oper.semAt_eq _ _ _ (fun c e=>by rw[e]at hq;simp[ev1]at hq)
      have h1: ∀p∈gObs G' T Hm o.op.operands.toList,p:=fun p hp=>hob p (List.mem_append_left _ hp)
      have h2: ∀p∈q.ob,p:=fun p hp=>under_ok (hob (under _ p) (List.mem_append_right _ (List.mem_map.2 ⟨p,hp,rfl⟩))) hg
      have step: ∀w,S w→ ∃u,(execOp a.eval o).run P w= .ok (.value u) w∧den η q.v=some u:=fun w hSw=>by
       obtain⟨φ,w0,Ef,hs⟩:=hS w hSw
       have hs1:=hs.room 1
       have hn1:(Hm++List.replicate 1 none)[Hm.length]?=some none:=by simp
       obtain⟨nx,u,w',η',hrun,_,_,_,_,_,hx⟩:=ev1_ok hE hq h2 hs1 hn1 (fun x hx sv hv=>by
        obtain⟨g,hgv⟩:=ldv_ok hv
        exact ldG_ok hs hT hgv (gObs_ok h1 hg x hx g sv hgv))
       obtain⟨rfl,rfl,hd⟩:=hx hwr hnw
       exact⟨u,hrun,hd⟩
      obtain⟨w,hSw⟩:=hex
      obtain⟨u,_,hd⟩:=step w hSw
      refine⟨u,fun _=>hd,fun h=>(by cases h),.inl ⟨by rw[hw,hg],fun w' hSw'=>?_⟩⟩
      obtain⟨u',hr',hd'⟩:=step w' hSw'
      rw[hd]at hd';cases hd'
      rw[hsem];exact hr'
    ·cases h
   ·cases h
def unK(d:Option Nat)(K:KS):KS:=fun se s ob=>match se with
 | .panic v => fcL (putT s.T d none) fun T => K (.panic v) ⟨T, s.H, s.D⟩ ob
 |se=>K se s ob
theorem unK_good{d:Option Nat}{K:KS}(h:Good K):Good (unK d K):=by
 intro se s ob hk;unfold unK at hk;split at hk
 ·rw[fcL_eq]at hk;exact h _ _ _ hk
 ·exact h _ _ _ hk
def planX(E:Env)(P:Program)(r:Option Nat)(h1:SHeap)(ops:List Oper):Plan→St→List Prop→KS→Prop
 | .done,s,ob,K=>K .normal s ob
 | .no,_,_,_=>True
 | .eager i p,s,ob,K=>match ops[i]? with
  |some o=>match eagerOp E ops o s.T (maskH s.H)with
   | some (G, v, obs) => fcV v fun v => fcL (putT s.T o.dst (some (G, v))) fun T' => fcP (obs ++ ob) fun ob => whL s.H fun H => whL s.D fun D => planX E P r h1 ops p ⟨T', H, D⟩ ob (unK o.dst K)
   |none=>False
  |none=>False
 | .alt i p q,s,ob,K=>match ops[i]? with
  |some o=>evOp E P r ops o s ob (seqK (fun s' ob=>match roB h1 s'.H with
   |true=>whL s'.T fun T=>whL s'.H fun H=>whL s'.D fun D=>planX E P r h1 ops p ⟨T,H,D⟩ ob K
   |false=>False) K)∧planX E P r h1 ops q s ob K
  |none=>False
theorem planX_owed{E:Env}{P:Program}{r:Option Nat}{h1:SHeap}{ops:List Oper} : ∀(p:Plan) {K:KS} (hK:Good K) (s:St) (ob:List Prop) (f:Nat) (l:Array Bool) (opsA:Array Oper),chk opsA p f l none=true→planX E P r h1 ops p s ob K→AllP ob
 | .done,K,hK,s,ob,_,_,_,_,h=>hK _ _ _ h
 | .no,K,hK,s,ob,f,l,opsA,hc,h=>by simp[chk]at hc
 | .eager i p,K,hK,s,ob,f,l,opsA,hc,h=>by
  cases f with
  |zero=>simp[chk]at hc
  |succ f=>
   simp only[chk,Bool.and_eq_true]at hc;simp only[planX]at h;split at h
   ·split at h
    ·rw[fcV_eq,fcL_eq,fcP_eq,whL_eq,whL_eq]at h;exact AllP_app (planX_owed p (unK_good hK) _ _ _ _ _ hc.2 h)
    ·exact h.elim
   ·exact h.elim
 | .alt i p q,K,hK,s,ob,f,l,opsA,hc,h=>by
  cases f with
  |zero=>simp[chk]at hc
  |succ f=>
   have hc':chk opsA p f (l.setIfInBounds i true) none=true:=by
    simp only[chk]at hc;split at hc
    ·simp only[Bool.and_eq_true]at hc;exact hc.1.2
    ·cases hc
   simp only[planX]at h;split at h
   ·refine evOp_owed (fun se s ob hk=>?_) h.1;cases se with
    |normal=>
     simp only[seqK]at hk;split at hk
     ·rw[whL_eq,whL_eq,whL_eq]at hk;exact planX_owed p hK _ _ _ _ _ hc' hk
     ·exact hk.elim
    |_=>exact hK _ _ _ hk
   ·exact h.elim
theorem TRel.drop1{η:Nam}{d:Option Nat}{T:Tm}{tmps:Array Value}(h:TRel η T tmps):TRel η (putT T d none) tmps:=by
 cases d with
 |none=>exact h
 |some d=>
  refine⟨by simp only[putT,List.length_set];exact h.1,fun k g sv hk=>h.2 k g sv ?_⟩;simp only[putT,List.getElem?_set]at hk;split at hk
  ·split at hk<;>simp at hk
  ·exact hk
theorem TRel.undo{η:Nam}{d:Option Nat}{T:Tm}{a:Act}{v:Value}(h:TRel η T (a.put d v).tmps):TRel η (putT T d none) a.tmps:=by
 cases d with
 |none=>exact h
 |some d=>
  refine⟨by simp only[putT,List.length_set];rw[←h.1];simp[Act.put],fun k g sv hk=>?_⟩;simp only[putT,List.getElem?_set]at hk;split at hk
  ·split at hk<;>simp at hk
  ·rename_i hne;have:=h.2 k g sv hk;simpa only[Act.put,Array.getElem?_setIfInBounds_ne hne]using this
theorem putT_twice(T:Tm)(d:Option Nat):putT (putT T d none) d none=putT T d none:=by
 cases d with
 |none=>rfl
 |some d=>simp[putT]
def QD(ops:List Oper)(L:Nat)(η1:Nam)(w1:World)(Ef1:Nat→Prop)(K:KS)(e:Exit)(a:Act)(w:World):Prop:=
 match e with
 | .normal=> ∃s ob η φ,K .normal s ob∧Rel L η1 w1 Ef1 s η φ a w
 | .panic c=> ∃v u s ob η φ,K (.panic v) s ob∧den η v=some u∧c=[{v:=u,recovered:=false}]∧Pin L η1 η∧L≤s.H.length∧Sat η φ s.H w1 Ef1 w∧TRel η s.T a.tmps∧DRel η s.D a.defers
 |_=>False
theorem Oper.wpIn_monoQ{F:Fence}{n:Nat}{P:Program}{Q Q':Exit→Act→World→Prop}(hQ: ∀e a w,Q e a w→Q' e a w){o:Oper}{a:Act}{w:World}{K K':Act→World→Prop}(h: ∀a w,K a w→K' a w)
  (hh:o.wpIn F n P a w K Q):o.wpIn F n P a w K' Q':=by
 unfold Oper.wpIn at*;refine⟨hh.1,?_⟩;have hh:=hh.2;generalize (o.semAt F.round a.eval).run P w=r at*;cases r with
 |ok x w'=>
  cases x<;>simp only[Oper.uponIn]at hh⊢ <;>
   first
    |exact h _ _ hh
    |exact⟨hh.1,CallsIn.mono hh.2 (fun e w'' he=>by cases e<;>first|exact h _ _ he|exact hQ _ _ _ he|exact(let⟨a,w,hx⟩:=he;⟨a,w,hQ _ _ _ hx⟩))⟩
    |exact⟨hh.1,RowsIn.mono hh.2 (fun _ _ he=>h _ _ he)⟩
    |exact⟨hh.1,RoundIn.mono hh.2 (fun e w'' he=>by cases e<;>first|exact h _ _ he|exact hQ _ _ _ he|exact(let⟨a,w,hx⟩:=he;⟨a,w,hQ _ _ _ hx⟩))⟩
 |halt x w'=>cases x<;>simp only[Oper.uponIn]at hh⊢ <;>first|exact hQ _ _ _ hh|exact hh
theorem wpOpIn_monoQ{F:Fence}{n:Nat}{P:Program}{ops:Array Oper}{Q Q':Exit→Act→World→Prop}(hQ: ∀e a w,Q e a w→Q' e a w){i:Nat}{a:Act}{w:World}{K K':Act→World→Prop}(h: ∀a w,K a w→K' a w)
  (hh:wpOpIn F n P ops Q i K a w):wpOpIn F n P ops Q' i K' a w:=by
 unfold wpOpIn at*;split
 ·exact h _ _ (by simpa[*]using hh)
 ·rename_i o ho;simp only[ho]at hh;split
  ·rename_i hw;simp only[hw,if_true]at hh;exact Oper.wpIn_monoQ hQ h hh
  ·rename_i hw;simp only[hw]at hh;exact⟨hh.1,h _ _ hh.2⟩
theorem wpAnyS_mono{F:Fence}{n:Nat}{P:Program}{md:Region.Mode}{ops:Array Oper}{Q Q':Exit→Act→World→Prop}{S:World→Prop}(hQ: ∀e a w,Q e a w→Q' e a w):
  ∀(f:Nat) (l:Array Bool) (a:Act) (w:World),wpAnyS F n P md ops Q S f l a w→wpAnyS F n P md ops Q' S f l a w
 |0,_,_,_,h=>⟨h.1,hQ _ _ _ h.2⟩
 |f+1,_,_,_,h=>⟨fun e=>hQ _ _ _ (h.1 e),fun i hi=>wpOpIn_monoQ hQ (fun a' w' h'=>⟨h'.1,wpAnyS_mono hQ f _ a' w' h'.2⟩) (h.2 i hi)⟩
theorem QD_back{ops:List Oper}{L:Nat}{η1:Nam}{w1:World}{Ef1:Nat→Prop}{K:KS}{d:Option Nat}{e:Exit}{a:Act}{w:World}(h:QD ops L η1 w1 Ef1 (unK d K) e a w):QD ops L η1 w1 Ef1 K e a w:=by
 cases e with
 |normal=>exact h
 |panic c=>
  obtain⟨v,u,s,ob,η,φ,k1,k2,k3,k4,k5,k6,k7,k8⟩:=h;simp only[unK,fcL_eq]at k1;exact⟨v,u,_,ob,η,φ,k1,k2,k3,k4,k5,k6,k7.drop1,k8⟩
 |exit i=>exact h.elim
 |goto l=>exact h.elim
 |ret=>exact h.elim
 |outgrown=>exact h.elim
section
variable {E:Env} {P:Program} {r:Option Nat} {h1:SHeap} {ops:List Oper} {η1:Nam} {w1:World} {Ef1:Nat→Prop}
theorem planX_ok(hE:E.ok P)(hst:Still η1 h1 w1 Ef1)(hsel:Region.noSelect ops.toArray=true): ∀(p:Plan) {K:KS} (hK:Good K) (s:St) (ob:List Prop) (f:Nat) (l:Array Bool) (η:Nam) (φ:Feet) (a:Act) (w:World),
  planX E P r h1 ops p s ob K→Rel h1.length η1 w1 Ef1 s η φ a w→roB h1 s.H=true→
  (chk ops.toArray p f l none=true→wpAnyS (Fw r) 0 P .any ops.toArray (QD ops h1.length η1 w1 Ef1 K) (SameOld w1 Ef1) f l a w)∧
  ∀rem,chk ops.toArray p (f+1) l (some rem)=true→ ∀i∈rem,wpOpIn (Fw r) 0 P ops.toArray (QD ops h1.length η1 w1 Ef1 K) i (fun a' w'=>SameOld w1 Ef1 w'∧wpAnyS (Fw r) 0 P .any ops.toArray (QD ops h1.length η1 w1 Ef1 K) (SameOld w1 Ef1) f (l.setIfInBounds i true) a' w') a w
 | .done,K,hK,s,ob,f,l,η,φ,a,w,h,hr,hro=>by
  refine⟨fun hc=>?_,fun rem hc=>by simp[chk]at hc⟩
  simp only[chk,List.isEmpty_iff]at hc
  have hq:QD ops h1.length η1 w1 Ef1 K .normal a w:=⟨s,ob,η,φ,h,hr⟩
  cases f with
  |zero=>exact⟨hc,hq⟩
  |succ f=>exact⟨fun _=>hq,by rw[hc];simp⟩
 | .no,K,hK,s,ob,f,l,η,φ,a,w,h,hr,hro=>by
  refine⟨fun hc=>by simp[chk]at hc,fun rem hc=>?_⟩
  cases rem with
  |nil=>simp
  |cons j rem=>simp[chk]at hc
 | .eager i p,K,hK,s,ob,f,l,η,φ,a,w,h,hr,hro=>by
  refine⟨fun hc=>?_,fun rem hc=>by simp[chk]at hc⟩
  cases f with
  |zero=>simp[chk]at hc
  |succ f=>
   simp only[chk,Bool.and_eq_true]at hc
   obtain⟨hc1,hc3⟩:=hc
   simp only[planX]at h
   split at h
   ·rename_i o ho
    split at h
    ·rename_i G v obs he
     rw[fcV_eq,fcL_eq,fcP_eq,whL_eq,whL_eq]at h
     have hob:=AllP_iff.1 (planX_owed p (unK_good hK) _ _ _ _ _ hc3 h)
     have hS:SameOld w1 Ef1 w:=⟨hr.sat.size,hr.sat.keep,hr.sat.env⟩
     obtain⟨u,hu1,hu2,hy⟩:=eager_ok (P:=P) hE he (fun p hp=>hob p (List.mem_append_left _ hp)) hr.tmps (S:=SameOld w1 Ef1)
      (fun w' hw'=>⟨φ,w1,Ef1,hr.sat.mask (still_of hst hr.pin hro) hw'⟩) ⟨w,hS⟩ r
     refine wpAnyS_mono (fun e a w hq=>QD_back (d:=o.dst) hq) _ _ _ _ ?_
     have H:=(planX_ok hE hst hsel p (unK_good hK) _ _ f _ η φ _ w h ⟨hr.pin,hr.len,hr.sat,TRel.put hr.tmps _ hu1 hu2,by rw[Act.put_defers'];exact hr.defers⟩ hro).1 hc3
     rcases onlyB_ok hc1 with hone|⟨hc1,hc2⟩
     ·refine⟨fun e=>(by rw[hone]at e;cases e),fun k hk=>?_⟩
      rw[hone,List.mem_singleton]at hk
      subst hk
      exact hy.wpOpIn (fun _=>trivial) (by simpa using ho) hS ⟨hS,H⟩
     ·refine wpAnyS_first (F:=Fw r) (fun _=>trivial) (i:=i) (oi:=o) (by simpa using ho) (Region.noSelect_spec hsel) ?_ f l a w (Region.free_spec (by simpa using ho) hc2) hc1 hy hS H
      rintro c a' w' ⟨v,u,s,ob,η,φ,k1,k2,k3,k4,k5,k6,k7,k8⟩
      simp only[unK,fcL_eq]at k1
      exact⟨v,u,⟨putT s.T o.dst none,s.H,s.D⟩,ob,η,φ,by simp only[unK,fcL_eq,putT_twice];exact k1,k2,k3,k4,k5,k6,k7.undo,by rwa [Act.put_defers']at k8⟩
    ·exact h.elim
   ·exact h.elim
 | .alt i p q,K,hK,s,ob,f,l,η,φ,a,w,h,hr,hro=>by
  have main: ∀f,chk ops.toArray p f (l.setIfInBounds i true) none=true→wpOpIn (Fw r) 0 P ops.toArray (QD ops h1.length η1 w1 Ef1 K) i (fun a' w'=>SameOld w1 Ef1 w'∧wpAnyS (Fw r) 0 P .any ops.toArray (QD ops h1.length η1 w1 Ef1 K) (SameOld w1 Ef1) f (l.setIfInBounds i true) a' w') a w:=fun f hc=>by
   simp only[planX]at h
   split at h
   ·rename_i o ho
    refine evOp_ok (n:=h1.length) (η0:=η1) (w0:=w1) (Ef:=Ef1) hE (fun se s ob hk=>?_) ⟨fun s' ob' η' φ' a' w' hk hr'=>?_,fun v s' ob' η' φ' a' w' u hk hr' hu=>?_⟩ ho h.1 hr
    ·cases se with
     |normal=>
      simp only[seqK]at hk
      split at hk
      ·rw[whL_eq,whL_eq,whL_eq]at hk;exact planX_owed p hK _ _ _ _ _ hc hk
      ·exact hk.elim
     |_=>exact hK _ _ _ hk
    ·simp only[seqK]at hk
     split at hk
     ·rename_i hro'
      rw[whL_eq,whL_eq,whL_eq]at hk
      exact⟨⟨hr'.sat.size,hr'.sat.keep,hr'.sat.env⟩,(planX_ok hE hst hsel p hK _ _ f _ η' φ' a' w' hk hr' hro').1 hc⟩
     ·exact hk.elim
    ·exact⟨v,u,s',ob',η',φ',hk,hu,rfl,hr'.pin,hr'.len,hr'.sat,hr'.tmps,hr'.defers⟩
   ·exact h.elim
  have hq:planX E P r h1 ops q s ob K:=by
   simp only[planX]at h
   split at h
   ·exact h.2
   ·exact h.elim
  have rest:=fun f=>planX_ok hE hst hsel q hK s ob f l η φ a w hq hr hro
  constructor
  ·intro hc
   cases f with
   |zero=>simp[chk]at hc
   |succ f=>
    simp only[chk]at hc
    split at hc
    ·rename_i j rem hrd
     simp only[Bool.and_eq_true,Nat.beq_eq]at hc
     obtain⟨⟨rfl,hc1⟩,hc2⟩:=hc
     refine⟨fun he=>(by rw[hrd]at he;cases he),fun k hk=>?_⟩
     rw[hrd]at hk
     rcases List.mem_cons.1 hk with rfl|hk
     ·exact main f hc1
     ·exact(rest f).2 rem hc2 k hk
    ·cases hc
  ·intro rem hc
   cases rem with
   |nil=>simp[chk]at hc
   |cons j rem=>
    simp only[chk,Bool.and_eq_true,Nat.beq_eq]at hc
    obtain⟨⟨rfl,hc1⟩,hc2⟩:=hc
    intro k hk
    rcases List.mem_cons.1 hk with rfl|hk
    ·exact main f hc1
    ·exact(rest f).2 rem hc2 k hk
end
theorem roB_self: ∀(h:SHeap),roB h h=true
 |[]=>rfl
 |none::h=>by simp[roB,ownO,roB_self h]
 |some o::h=>by
  simp only[roB,Bool.and_eq_true];refine⟨?_,roB_self h⟩;cases o<;>first|rfl|(rename_i own _ _ _;cases own<;>rfl)
theorem Sat.drawn{η:Nam}{φ:Feet}{h:SHeap}{w0 w:World}{Ef:Nat→Prop}(s:Sat η φ h w0 Ef w)(n:Nat):Sat η φ h w0 Ef {w with drawn:=n} :=s.world rfl ⟨rfl,rfl⟩
/-! ### The same test by masks -/
def amL:List Edge→Nat
 |[]=>0
 |e::es=>match Region.binds .any e with
  |true=>2^e.on|||amL es
  |false=>amL es
theorem amL_ok{m:Nat} : ∀es:List Edge,(amL es&&&m==amL es)=es.all fun e=>!Region.binds .any e||m.testBit e.on
 |[]=>by simp[amL]
 |e::es=>by
  have ih:=amL_ok (m:=m) es;rw[List.all_cons,←ih];have key: ∀a:Nat,(a&&&m==a)=true↔ ∀i,a.testBit i=true→m.testBit i=true:=fun a=>by
   rw[beq_iff_eq];constructor
   ·intro h i hi;rw[←h,Nat.testBit_and,Bool.and_eq_true]at hi;exact hi.2
   ·intro h;apply Nat.eq_of_testBit_eq;intro i;rw[Nat.testBit_and];cases ha:a.testBit i with
    |false=>rfl
    |true=>rw[h i ha];rfl
  rw[amL];cases hb:Region.binds .any e with
  |false=>simp
  |true=>
   simp only[Bool.not_true,Bool.false_or];rw[Bool.eq_iff_iff,Bool.and_eq_true,key,key];constructor
   ·intro h;refine⟨h _ (by rw[Nat.testBit_or,Nat.testBit_two_pow_self];rfl),fun i hi=>h i (by rw[Nat.testBit_or,hi,Bool.or_true])⟩
   ·rintro⟨h1,h2⟩ i hi;rw[Nat.testBit_or,Bool.or_eq_true]at hi;rcases hi with hi|hi
    ·by_cases c:e.on=i
     ·subst c;exact h1
     ·rw[Nat.testBit_two_pow_of_ne c]at hi;cases hi
    ·exact h2 i hi
def amsOf(ops:Array Oper):List Nat:=ops.toList.map fun o=>amL o.after.toList
def rdL:List Nat→Nat→Nat→List Nat
 |[],_,_=>[]
 |a::as,k,m=>match m.testBit k with
  |true=>rdL as (k+1) m
  |false=>match a&&&m==a with
   |true=>k::rdL as (k+1) m
   |false=>rdL as (k+1) m
structure Lst(n:Nat)(l:Array Bool)(m:Nat):Prop where
 size:l.size=n
 at': ∀j,j<n→l[j]?=some (m.testBit j)
 out: ∀j,n≤j→m.testBit j=false
theorem Lst.getT{n:Nat}{l:Array Bool}{m:Nat}(h:Lst n l m){j:Nat}(hj:j<n):l.getD j true=m.testBit j:=by
 rw[Array.getD_eq_getD_getElem?,h.at' j hj];rfl
theorem Lst.getF{n:Nat}{l:Array Bool}{m:Nat}(h:Lst n l m)(j:Nat):l.getD j false=m.testBit j:=by
 rw[Array.getD_eq_getD_getElem?];by_cases hj:j<n
 ·rw[h.at' j hj];rfl
 ·rw[Array.getElem?_eq_none (by rw[h.size];omega),h.out j (by omega)];rfl
theorem Lst.set{n:Nat}{l:Array Bool}{m:Nat}(h:Lst n l m){i:Nat}(hi:i<n):Lst n (l.setIfInBounds i true) (m|||2^i):=by
 refine⟨by simp[h.size],fun j hj=>?_,fun j hj=>?_⟩
 ·rw[Array.getElem?_setIfInBounds];split
  ·rename_i e;subst e;rw[if_pos (by rw[h.size];exact hi),Nat.testBit_or,Nat.testBit_two_pow_self,Bool.or_true]
  ·rename_i e;rw[h.at' j hj,Nat.testBit_or,Nat.testBit_two_pow_of_ne e,Bool.or_false]
 ·rw[Nat.testBit_or,h.out j hj,Nat.testBit_two_pow_of_ne (by omega)];rfl
theorem rdL_filter{m:Nat}{p:Nat→Bool} : ∀(as:List Nat) (k:Nat),(∀j a,as[j]?=some a→p (k+j)=(!m.testBit (k+j)&&(a&&&m==a)))→rdL as k m=(List.range' k as.length).filter p
 |[],k,_=>rfl
 |a::as,k,h=>by
  have h0 := h 0 a rfl;rw [Nat.add_zero] at h0;have ih := rdL_filter (m := m) (p := p) as (k + 1) fun j b hb => by
   have:=h (j+1) b (by simpa using hb);rwa [show k+(j+1)=k+1+j by omega]at this
  rw[rdL,List.length_cons,List.range'_succ,List.filter_cons,h0,ih];cases m.testBit k<;>cases(a&&&m==a)<;>rfl
theorem rd_ok{ops:Array Oper}{l:Array Bool}{m:Nat}(h:Lst ops.size l m):rdL (amsOf ops) 0 m=Region.ready .any ops l:=by
 have hl:(amsOf ops).length=ops.size:=by simp[amsOf]
 unfold Region.ready;rw[List.range_eq_range',←hl];refine rdL_filter _ 0 fun j a ha=>?_
 rw[Nat.zero_add];simp only[amsOf,List.getElem?_map,Option.map_eq_some_iff,Array.getElem?_toList]at ha;obtain⟨o,ho,rfl⟩:=ha;have hj:j<ops.size:=(Array.getElem?_eq_some_iff.1 ho).1;rw[h.getT hj,ho,amL_ok];simp only[Option.map_some,Option.getD_some];congr 1;rw[←Array.all_toList];congr 1;funext e;rw[h.getF]
def frL(ops:Array Oper)(oi:Oper)(i m:Nat):List Oper→List Nat→Nat→Bool
 |[],_,_=>true
 |oj::os,as,k=>match as with
  |[]=>false
  |a::as=>match Nat.beq k i||m.testBit k||a.testBit i with
   |true=>frL ops oi i m os as (k+1)
   |false=>match oi.apart ops oj with
    |true=>frL ops oi i m os as (k+1)
    |false=>false
theorem amL_bit{i:Nat} : ∀es:List Edge,(amL es).testBit i=es.any fun e=>Region.binds .any e&&e.on==i
 |[]=>by simp[amL]
 |e::es=>by
  rw[amL,List.any_cons,←amL_bit es];cases Region.binds .any e with
  |false=>rfl
  |true=>
   simp only[Nat.testBit_or,Bool.true_and];congr 1;by_cases c:e.on=i
   ·subst c;rw[Nat.testBit_two_pow_self];simp
   ·rw[Nat.testBit_two_pow_of_ne c];simp[c]
theorem frL_ok{ops:Array Oper}{oi:Oper}{i m:Nat} : ∀(os:List Oper) (k:Nat),frL ops oi i m os (os.map fun o=>amL o.after.toList) k=true→ ∀j oj,os[j]?=some oj→(Nat.beq (k+j) i||m.testBit (k+j)||(amL oj.after.toList).testBit i||oi.apart ops oj)=true
 |[],k,_,j,oj,h=>by simp at h
 |o::os,k,h,j,oj,hj=>by
  rw[List.map_cons,frL]at h;cases hb:Nat.beq k i||m.testBit k||(amL o.after.toList).testBit i with
  |true=>
   rw[hb]at h;cases j with
   |zero=>
    simp only[List.getElem?_cons_zero,Option.some.injEq]at hj;subst hj;rw[Nat.add_zero,hb];rfl
   |succ j=>
    have:=frL_ok os (k+1) h j oj (by simpa using hj);rwa [show k+1+j=k+(j+1)by omega]at this
  |false=>
   rw[hb]at h;cases ha:oi.apart ops o with
   |false=>rw[ha]at h;cases h
   |true=>
    rw[ha]at h;cases j with
    |zero=>
     simp only[List.getElem?_cons_zero,Option.some.injEq]at hj;subst hj;rw[ha,Bool.or_true]
    |succ j=>
     have:=frL_ok os (k+1) h j oj (by simpa using hj);rwa [show k+1+j=k+(j+1)by omega]at this
def frB(ops:Array Oper)(i m:Nat)(ams:List Nat):Bool:=match ops[i]? with
 |some oi=>frL ops oi i m ops.toList ams 0
 |none=>false
theorem frB_ok{ops:Array Oper}{l:Array Bool}{i m:Nat}(h:Lst ops.size l m)(hf:frB ops i m (amsOf ops)=true):Region.free .any ops l i=true:=by
 unfold frB at hf;unfold Region.free;cases ho:ops[i]? with
 |none=>rw[ho]at hf;cases hf
 |some oi=>
  rw[ho]at hf;simp only at hf⊢;rw[List.all_eq_true];intro j hj;rw[List.mem_range]at hj;have hoj:ops[j]?=some ops[j]:=Array.getElem?_eq_getElem hj;have:=frL_ok ops.toList 0 hf j ops[j] (by rw[Array.getElem?_toList];exact hoj);rw[Nat.zero_add,amL_bit]at this;rw[h.getT hj,hoj];simp only[Bool.or_eq_true]at this⊢;rcases this with((h1|h1)|h1)|h1
  ·exact .inl (.inl (by simpa using Nat.eq_of_beq_eq_true h1))
  ·exact .inl (.inr h1)
  ·refine .inr (.inl ?_);rw[←Array.any_toList];exact h1
  ·exact .inr (.inr h1)
def chkF(ops:Array Oper)(ams:List Nat):Plan→Nat→Nat→Option (List Nat)→Bool
 | .done,_,m,none=>(rdL ams 0 m).isEmpty
 | .eager i p,f+1,m,none=>onlyB i (rdL ams 0 m) (frB ops i m ams)&&chkF ops ams p f (m|||2^i) none
 | .alt i p q,f+1,m,none=>match rdL ams 0 m with
  |j::rem=>Nat.beq i j&&Nat.blt i ops.size&&chkF ops ams p f (m|||2^i) none&&chkF ops ams q (f+1) m (some rem)
  |[]=>false
 | .alt i p q,f+1,m,some (j::rem)=>Nat.beq i j&&Nat.blt i ops.size&&chkF ops ams p f (m|||2^i) none&&chkF ops ams q (f+1) m (some rem)
 | .no,_,_,some []=>true
 |_,_,_,_=>false
theorem onlyB_mono{i:Nat}{l:List Nat}{b c:Bool}(h:onlyB i l b=true)(hbc:b=true→c=true):onlyB i l c=true:=by
 unfold onlyB at*;split at h
 ·exact h
 ·rename_i hne;rw[Bool.and_eq_true]at h;rw[Bool.and_eq_true];exact⟨h.1,hbc h.2⟩
theorem chkF_ok{ops:Array Oper} : ∀(p:Plan) (f:Nat) (l:Array Bool) (m:Nat) (r:Option (List Nat)),Lst ops.size l m→chkF ops (amsOf ops) p f m r=true→chk ops p f l r=true
  | .done,f,l,m,r,h,hc=>by
    cases r with
    |none=>
      simp only[chkF]at hc;rw[rd_ok h]at hc;simpa[chk]using hc
    |some r=>simp[chkF]at hc
  | .eager i p,f,l,m,r,h,hc=>by
    cases f with
    |zero=>cases r<;>simp[chkF]at hc
    |succ f=>
      cases r with
      |some r=>simp[chkF]at hc
      |none=>
        simp only[chkF,Bool.and_eq_true]at hc;obtain⟨h1,h2⟩:=hc;rw[rd_ok h]at h1;have hi:i<ops.size:=by
          have:i∈Region.ready .any ops l:=by
            rcases onlyB_ok h1 with e|⟨e,_⟩
            · rw[e];exact List.mem_singleton_self _
            · exact e
          unfold Region.ready at this;exact List.mem_range.1 (List.mem_filter.1 this).1
        simp only[chk,Bool.and_eq_true];exact⟨onlyB_mono h1 (frB_ok h),chkF_ok p f _ _ none (h.set hi) h2⟩
  | .alt i p q,f,l,m,r,h,hc=>by
    cases f with
    |zero=>
      cases r with
      |none=>simp[chkF]at hc
      |some r=>cases r<;>simp[chkF]at hc
    |succ f=>
      have key: ∀j rem,(Nat.beq i j&&Nat.blt i ops.size&&chkF ops (amsOf ops) p f (m|||2^i) none&&chkF ops (amsOf ops) q (f+1) m (some rem))=true→(Nat.beq i j&&chk ops p f (l.setIfInBounds i true) none&&chk ops q (f+1) l (some rem))=true:=fun j rem hk=>by
        simp only[Bool.and_eq_true]at hk⊢;obtain⟨⟨⟨a,b⟩,c⟩,d⟩:=hk;exact⟨⟨a,chkF_ok p f _ _ none (h.set (by simpa using b)) c⟩,chkF_ok q (f+1) _ _ _ h d⟩
      cases r with
      |none=>
        simp only[chkF]at hc;rw[rd_ok h]at hc;simp only[chk];split at hc
        · rename_i j rem hr;first
            |exact key j rem hc
            | (rw [hr]
               exact key j rem hc)
        · cases hc
      |some r=>
        cases r with
        |nil=>simp[chkF]at hc
        |cons j rem=>
          simp only[chkF]at hc;simp only[chk];exact key j rem hc
  | .no,f,l,m,r,h,hc=>by
    cases r with
    |none=>simp[chkF]at hc
    |some r=>
      cases r with
      |nil=>simp[chk]
      |cons j rem=>simp[chkF]at hc
def checkPlanF(ops:Array Oper)(p:Plan):Bool:=Region.noSelect ops&&chkF ops (amsOf ops) p ops.size 0 none
theorem checkPlanF_ok{ops:Array Oper}{p:Plan}(h:checkPlanF ops p=true):checkPlan ops p=true:=by
 unfold checkPlanF at h;unfold checkPlan;rw[Bool.and_eq_true]at h⊢;refine⟨h.1,chkF_ok p _ _ 0 none ⟨by simp,fun j hj=>?_,fun j _=>Nat.zero_testBit j⟩ h.2⟩;rw[Array.getElem?_replicate,if_pos hj,Nat.zero_testBit]
theorem drawP{E:Env}{P:Program}(hE:E.ok P){r:Option Nat}{n id:Nat}{ops:Array Oper}{s:St}{K:SE→St→Prop}(ks:List Nat)(plan:Plan)(hc:checkPlanF ops plan=true)
  (hx : fcSt ⟨s.T, lockH ks 0 s.H, s.D⟩ fun s1 => planX E P r s1.H ops.toList plan s1 [] fun se s' ob => match se with
   | .normal => fcP ob fun ob => AllP ob ∧ roB s1.H s'.H = true ∧ fcH (unlH s.H s1.H s'.H) fun H => K .normal ⟨s'.T, H, s'.D⟩
   | .panic v => fcP ob fun ob => AllP ob ∧ roB s1.H s'.H = true ∧ fcH (unlH s.H s1.H s'.H) fun H => K (.panic v) ⟨s'.T, H, s'.D⟩
   |_=>False):CodeP P r n (.region id ops true) s K:=by
 rw[fcSt_eq]at hx;replace hc:=checkPlanF_ok hc;unfold checkPlan at hc;rw[Bool.and_eq_true]at hc;intro η0 η φ w0 Ef w a q1 q2 q3 q4 q5;refine wpIn_region_any hE.mixed ?_;have q3:=q3.drawn (w.drawn+1);generalize {w with drawn:=w.drawn+1} =w at q3;have hl:=lockH_ok ks 0 s.H;obtain⟨hlen,_⟩:=hl.get;obtain⟨Ef1,hs1,hst,hEf⟩:=q3.lock hl;refine wpAnyIn_of_S (S:=SameOld w Ef1) _ _ _ _ ?_;have hgood:Good (fun se s' ob=>match se with
   | .normal => fcP ob fun ob => AllP ob ∧ roB (lockH ks 0 s.H) s'.H = true ∧ fcH (unlH s.H (lockH ks 0 s.H) s'.H) fun H => K .normal ⟨s'.T, H, s'.D⟩
   | .panic v => fcP ob fun ob => AllP ob ∧ roB (lockH ks 0 s.H) s'.H = true ∧ fcH (unlH s.H (lockH ks 0 s.H) s'.H) fun H => K (.panic v) ⟨s'.T, H, s'.D⟩
   |_=>False:KS):=by
  intro se s' ob hk;cases se with
  |normal=>simp only[fcP_eq]at hk;exact hk.1
  |panic v=>simp only[fcP_eq]at hk;exact hk.1
  |exit i=>exact hk.elim
  |goto l=>exact hk.elim
  |ret=>exact hk.elim
 have hro:roB (lockH ks 0 s.H) (lockH ks 0 s.H)=true:=roB_self _;have key:=(planX_ok (r:=r) hE hst (ops:=ops.toList) (by simpa using hc.1) plan hgood ⟨s.T,lockH ks 0 s.H,s.D⟩ [] ops.size (Array.replicate ops.size false) η φ a w hx ⟨Pin.refl _ _,Nat.le_refl _,hs1,q4,q5⟩ hro).1 (by simpa using hc.2);simp only[Array.toArray_toList]at key;refine wpAnyS_mono ?_ _ _ _ _ key;intro e a' w' hq;cases e with
 |normal=>
  obtain⟨s',ob,η',φ',k,hr⟩:=hq;simp only[fcP_eq,fcH_eq]at k;obtain⟨_,hro',k⟩:=k;have hp:Pin s.H.length η η':=fun i hi=>hr.pin i (by omega)
  obtain⟨φ'',hs'⟩:=q3.unlock hl hEf hp hr.sat (own_of hro');have:=hr.len;exact⟨.normal,_,η',φ'',k,q1.trans hp q2,by show n≤(unlH _ _ _).length;rw[unlH_length];omega,rfl,hs',hr.tmps,hr.defers⟩
 |panic c=>
  obtain⟨v,u,s',ob,η',φ',k,hu,rfl,p1,p2,p3,p4,p5⟩:=hq;simp only[fcP_eq,fcH_eq]at k;obtain⟨_,hro',k⟩:=k;have hp:Pin s.H.length η η':=fun i hi=>p1 i (by omega)
  obtain⟨φ'',hs'⟩:=q3.unlock hl hEf hp p3 (own_of hro');exact⟨.panic v,_,η',φ'',k,q1.trans hp q2,by show n≤(unlH _ _ _).length;rw[unlH_length];omega,⟨u,hu,rfl⟩,hs',p4,p5⟩
 |exit i=>exact hq.elim
 |goto l=>exact hq.elim
 |ret=>exact hq.elim
 |outgrown=>exact hq.elim
def EntC(n:Nat):CE→SHeap→CE→SHeap→Prop
 | .ret v,h1,.ret v',h2=>Ent n ⟨[some (none,v)],h1,[]⟩ ⟨[some (none,v')],h2,[]⟩
 | .panic v,h1,.panic v',h2=>Ent n ⟨[some (none,v)],h1,[]⟩ ⟨[some (none,v')],h2,[]⟩
 |_,_,_,_=>False
theorem CallG.ent{C:Nam→List Value→World→(Ending→World→Prop)→Prop}(hm: ∀(η:Nam) (vs:List Value) (w:World) (R R':Ending→World→Prop),(∀e w',R e w'→R' e w')→C η vs w R→C η vs w R'){args:List SV}{h:SHeap}{K:CE→SHeap→Prop}(hc:CallG C args h fun ce h1=> ∃ce' h2,K ce' h2∧EntC h.length ce h1 ce' h2):CallG C args h K:=by
 intro η φ w0 Ef w vs hs hd;refine hm η vs w _ _ ?_ (hc η φ w0 Ef w vs hs hd);rintro e w' ⟨ce,h1,η1,φ1,⟨ce',h2,hk,he⟩,hl,hp,hcr,hs1⟩;have main: ∀v v' u,Ent h.length ⟨[some (none,v)],h1,[]⟩ ⟨[some (none,v')],h2,[]⟩→den η1 v=some u→ ∃η2 φ2,h.length≤h2.length∧Pin h.length η η2∧den η2 v'=some u∧Sat η2 φ2 h2 w0 Ef w':=fun v v' u he hu=>by
  obtain⟨η2,φ2,p1,p2,p3,p4,_⟩:=he η1 φ1 w0 Ef w' {tmps:= #[u],defers:=[]} hl hs1 ⟨rfl,fun k g sv hk=>by
   cases k with
   |zero=>simp at hk;obtain⟨rfl,rfl⟩:=hk;exact⟨fun _=>⟨u,hu,rfl⟩,fun h=>by cases h⟩
   |succ k=>simp at hk⟩ rfl
  obtain⟨u',h5,h6⟩:=(p4.2 0 none v' rfl).1 rfl;simp at h6;subst h6;exact⟨η2,φ2,p2,fun i hi=>(p1 i hi).trans (hp i hi),h5,p3⟩
 cases ce with
 |ret v=>
  cases ce' with
  |panic v'=>exact he.elim
  |ret v'=>
   obtain⟨u,hu,rfl⟩:=hcr;obtain⟨η2,φ2,q1,q2,q3,q4⟩:=main v v' u he hu;exact⟨_,h2,η2,φ2,hk,q1,q2,⟨u,q3,rfl⟩,q4⟩
 |panic v=>
  cases ce' with
  |ret v'=>exact he.elim
  |panic v'=>
   obtain⟨u,hu,rfl⟩:=hcr;obtain⟨η2,φ2,q1,q2,q3,q4⟩:=main v v' u he hu;exact⟨_,h2,η2,φ2,hk,q1,q2,⟨u,q3,rfl⟩,q4⟩
theorem CallP.ent{P:Program}{f:FuncId}{args:List SV}{h:SHeap}{K:CE→SHeap→Prop}(hc:CallP P f args h fun ce h1=> ∃ce' h2,K ce' h2∧EntC h.length ce h1 ce' h2):CallP P f args h K:=
 CallG.ent (C:=fun _ vs w R=>Calls P f vs.toArray w R) (fun _ _ _ _ _ hm h=>h.mono hm) hc
theorem YieldP.ent{P:Program}{i:Nat}{args:List SV}{h:SHeap}{K:CE→SHeap→Prop}(hc:YieldP P i args h fun ce h1=> ∃ce' h2,K ce' h2∧EntC h.length ce h1 ce' h2):YieldP P i args h K:=
 CallG.ent (C:=yieldC P i) (fun _ _ _ _ _ hm h=>yieldC.mono h hm) hc
theorem callR{E:Env}{P:Program}(hE:E.ok P){f:Nat}{fn:Func}{c:Code}{args:List SV}{h h2:SHeap}{v':SV}(hf:P.funcs[f]?=some fn)(hb:fn.body=some c)
  (hx:X E P none h.length c ⟨initT args fn.ntmps,h,[]⟩ [] (retKS E fn.results.toList fun ce h1=>match ce with
   | .ret v=>Ent h.length ⟨[some (none,v)],h1,[]⟩ ⟨[some (none,v')],h2,[]⟩
   | .panic _=>False)):CallP P f args h (Ret v' h2):=
 CallP.ent ((callP_enter hE hf hb hx).mono fun ce h1 hk=>by
  cases ce with
  |ret v=>exact⟨.ret v',h2,⟨rfl,rfl⟩,hk⟩
  |panic v=>exact hk.elim)
theorem callK{E:Env}{P:Program}(hE:E.ok P){f:Nat}{fn:Func}{c:Code}{args:List SV}{h:SHeap}{K:CE→SHeap→Prop}(hf:P.funcs[f]?=some fn)(hb:fn.body=some c)
  (hx:X E P none h.length c ⟨initT args fn.ntmps,h,[]⟩ [] (retKS E fn.results.toList fun ce h1=> ∃ce' h2,K ce' h2∧EntC h.length ce h1 ce' h2)):CallP P f args h K:=
 CallP.ent (callP_enter hE hf hb hx)
def IsRec(fn:Func)(q:Nat):Prop:=
 ∃id ty0 pos0 a0 ty1 pos1 a1 tys,fn.body=some (.region id #[⟨some 1,.call {callee:= .builtin .recover,args:= #[],argTypes:= #[]},ty0,pos0,a0,none⟩,
  ⟨some 2,.call {callee:= .value (.func q),args:= #[.tmp 1,.tmp 0],argTypes:=tys},ty1,pos1,a1,none⟩] false)∧fn.ntmps=3∧fn.results= #[]
theorem leaves_rec{E:Env}{P:Program}(hE:E.ok P){g q:Nat}{gf:Func}(hg:P.funcs[g]?=some gf)(hr:IsRec gf q)(hq:E.fn q=true)(hgE:E.fn g=true){fn:Func}{tmps:Array Value}{R:Ending→World→Prop}{u:FrameMode}{x pv:Value}{w:World}
  (hu:(u= .returning∧x= .nilIface)∨(u= .panicking [{v:=x,recovered:=false}]))
  (hc:Calls P q #[x,pv] w fun e w'=>match e with
   | .returned _=> ∃v,(results fn tmps).run P w'= .ok v w'∧R (.returned v) w'
   |_=>False):
  Leaves P fn tmps R [{target:= .fn (.func g) #[pv],args:= #[]}] u w:=by
 obtain⟨id,ty0,pos0,a0,ty1,pos1,a1,tys,hb,hn,hres⟩:=hr
 refine leaves_cons (f:=g) (args:= #[pv]) (by rcases hu with⟨rfl,_⟩|rfl<;>simp) ?_ ?_
 ·simp only[invoke]
  rw[run_callFunc hE hgE]
  rfl
 refine callsD_of_wpS hg hb fun c₀ cs hmode=>wpS_region ?_
 have hrec: ∃u',(match recoverD (c₀::cs)with
   |some (v,cs')=>v=x∧cs'={c₀ with mode:=u'} ::cs
   |none=>x= .nilIface∧c₀::cs={c₀ with mode:=u'} ::cs)∧settle u'= .returning:=by
  rcases hu with⟨rfl,rfl⟩|rfl
  ·refine⟨.returning,?_,rfl⟩
   simp only[recoverD,hmode]
   exact⟨trivial,by rw[←hmode]⟩
  ·refine⟨.panicking [{v:=x,recovered:=true}],?_,rfl⟩
   simp only[recoverD,hmode]
   exact⟨trivial,trivial⟩
 obtain⟨u',hrec,hset⟩:=hrec
 have hrun0: ∀ρ:Operand→Value,(execOp ρ ⟨some 1,.call {callee:= .builtin .recover,args:= #[],argTypes:= #[]},ty0,pos0,a0,none⟩).run P w= .ok .recover w:=fun ρ=>by
  simp[execOp,resolve,invoke,builtin]
 have hrun1: ∀(ρ:Operand→Value),ρ (.func q)= .func (.func q) #[] #[]→(execOp ρ ⟨some 2,.call {callee:= .value (.func q),args:= #[.tmp 1,.tmp 0],argTypes:=tys},ty1,pos1,a1,none⟩).run P w= .ok (.enter q #[ρ (.tmp 1),ρ (.tmp 0)]) w:=fun ρ h=>by
  simp only[execOp,resolve,h,Deferred.ofValue,pure_bind,invoke]
  rw[run_callFunc hE hq]
  simp
 have fin: ∀(a:Act) (cs':List Frame),a.tmps= #[pv,x,undef]→a.defers=[]→cs'={c₀ with mode:=u'} ::cs→
   wpOpsS P #[⟨some 1,.call {callee:= .builtin .recover,args:= #[],argTypes:= #[]},ty0,pos0,a0,none⟩,⟨some 2,.call {callee:= .value (.func q),args:= #[.tmp 1,.tmp 0],argTypes:=tys},ty1,pos1,a1,none⟩]
    (bodyPostS P gf c₀ cs fun e u' w'=>match e,u',w' with
     | .returned _,u',w'=>Leaves P fn tmps R [] (settle u') w'
     | .panicked chain,u',w'=>Leaves P fn tmps R [] (raised u' chain) w'
     | .outgrown,_,w'=>R .outgrown w') [1] a cs' w:=by
  intro a cs' ht hd hcs
  have e1:a.eval (.tmp 1)=x:=by simp[Act.eval,ht]
  have e0:a.eval (.tmp 0)=pv:=by simp[Act.eval,ht]
  have ef:a.eval (.func q)= .func (.func q) #[] #[]:=rfl
  have hr1:=hrun1 a.eval ef
  rw[e1,e0]at hr1
  simp only[wpOpsS,List.getElem?_toArray,List.getElem?_cons_succ,List.getElem?_cons_zero,Region.wanted,if_true,hr1,Oper.upon]
  refine hc.mono fun e w' he=>?_
  cases e with
  |returned v=>
   refine⟨by simp[Act.put,hd],u',hcs,.tuple #[],?_,?_⟩
   ·simp[results,hres]
   ·show Leaves P fn tmps R [] (settle u') w'
    rw[hset];exact he
  |panicked c=>exact he.elim
  |outgrown=>exact he.elim
 have hlist:List.range (#[(⟨some 1,.call {callee:= .builtin .recover,args:= #[],argTypes:= #[]},ty0,pos0,a0,none⟩:Oper),⟨some 2,.call {callee:= .value (.func q),args:= #[.tmp 1,.tmp 0],argTypes:=tys},ty1,pos1,a1,none⟩]:Array Oper).size=[0,1]:=rfl
 rw[hlist,wpOpsS]
 simp only[List.getElem?_toArray,List.getElem?_cons_zero,Region.wanted,if_true,hrun0]
 cases hrd:recoverD (c₀::cs)with
 |none=>
  rw[hrd]at hrec
  exact fin _ _ (by simp[Act.put,hn,hrec.1]) rfl hrec.2
 |some p=>
  obtain⟨v,cs'⟩:=p
  rw[hrd]at hrec
  obtain⟨rfl,rfl⟩:=hrec
  exact fin _ _ (by simp[Act.put,hn]) rfl rfl
def endD(E:Env)(P:Program)(rs:List ResultVar)(g q:Nat)(K:SV→SHeap→Prop)(x:SV)(s:St)(ob:List Prop):Prop:=
 match s.D with
 |[.fn (.func g') [] [p]]=>match Nat.beq g' g with
  |true=>fcP ob fun ob=>AllP ob∧CallP P q [x,p] s.H fun ce H'=>match ce with
   | .ret _=>match resL E ⟨s.T,H',[]⟩ rs with
    | some (vs, ob') => fcP ob' fun ob' => AllP ob' ∧ fcV (resOne vs) fun v => fcL H' fun H' => K v H'
    |none=>False
   | .panic _=>False
  |false=>False
 |_=>False
def retKD(E:Env)(P:Program)(rs:List ResultVar)(g q:Nat)(K:SV→SHeap→Prop):KS:=fun se s ob=>match se with
 | .normal=>endD E P rs g q K .inil s ob
 | .ret=>endD E P rs g q K .inil s ob
 | .panic (.iface t v)=>endD E P rs g q K (.iface t v) s ob
 |_=>False
theorem endD_owed{E:Env}{P:Program}{rs:List ResultVar}{g q:Nat}{K:SV→SHeap→Prop}{x:SV}{s:St}{ob:List Prop}(h:endD E P rs g q K x s ob):AllP ob:=by
 unfold endD at h;split at h
 ·split at h
  ·rw[fcP_eq]at h;exact h.1
  ·exact h.elim
 ·exact h.elim
theorem retKD_good(E:Env)(P:Program)(rs:List ResultVar)(g q:Nat)(K:SV→SHeap→Prop):Good (retKD E P rs g q K):=by
 intro se s ob h;unfold retKD at h;split at h
 ·exact endD_owed h
 ·exact endD_owed h
 ·exact endD_owed h
 ·exact h.elim
theorem callD{E:Env}{P:Program}(hE:E.ok P){f:Nat}{fn:Func}{c:Code}{args:List SV}{h:SHeap}{K:CE→SHeap→Prop}(hf:P.funcs[f]?=some fn)(hb:fn.body=some c)
  {g q:Nat} {gf:Func} (hg:P.funcs[g]?=some gf) (hr:IsRec gf q) (hq:E.fn q=true) (hgE:E.fn g=true)
  (hx:X E P none h.length c ⟨initT args fn.ntmps,h,[]⟩ [] (retKD E P fn.results.toList g q fun v h1=> ∃ce' h2,K ce' h2∧EntC h.length (.ret v) h1 ce' h2)):CallP P f args h K:=by
 refine CallP.ent ?_
 intro η φ w0 Ef w vs hs hd
 let KD:=retKD E P fn.results.toList g q fun v h1=> ∃ce' h2,K ce' h2∧EntC h.length (.ret v) h1 ce' h2
 have hc:=X_ok hE c _ _ _ (fun se s=> ∃ob,KD se s ob) (retKD_good E P fn.results.toList g q _) (fun se s ob hk=>⟨ob,hk⟩) hx η η φ w0 Ef w {tmps:=vs.toArray++Array.replicate (fn.ntmps-vs.toArray.size) undef,defers:=[]} (Pin.refl _ _) (Nat.le_refl _) hs (initT_ok hd _) rfl
 refine calls_of_wp_defers hf hb (wp_mono (wpIn_wide.1 hc) ?_)
 rintro e a w' ⟨se,s,η',φ',⟨ob,k⟩,p1,p2,pe,p3,p4,p5⟩
 have main: ∀(x:SV) (xv:Value) (u:FrameMode),endD E P fn.results.toList g q (fun v h1=> ∃ce' h2,K ce' h2∧EntC h.length (.ret v) h1 ce' h2) x s ob→den η' x=some xv→
   ((u= .returning∧xv= .nilIface)∨u= .panicking [{v:=xv,recovered:=false}])→
   Leaves P fn a.tmps (fun e w'=> ∃ce h1 η1 φ1,(∃ce' h2,K ce' h2∧EntC h.length ce h1 ce' h2)∧h.length≤h1.length∧Pin h.length η η1∧cRel η1 ce e∧Sat η1 φ1 h1 w0 Ef w') a.defers u w':=by
  intro x xv u hk hxv hu
  unfold endD at hk
  split at hk
  ·rename_i g' p hD
   split at hk
   ·rename_i hgg
    have hgg:g'=g:=by simpa using hgg
    subst hgg
    rw[fcP_eq]at hk
    obtain⟨_,hcall⟩:=hk
    have hD':=p5
    rw[hD]at hD'
    unfold DRel at hD'
    simp only[List.mapM_cons,List.mapM_nil,denD,denL,Option.bind_eq_bind,Option.bind_some,Option.bind_eq_some_iff,Option.map_eq_some_iff,Option.pure_def,Option.some.injEq]at hD'
    obtain⟨d,⟨capv,⟨pv,hpv,_,rfl,rfl⟩,rfl⟩,hds⟩:=hD'
    rw[←hds]
    refine leaves_rec hE hg hr hq hgE (x:=xv) hu ?_
    have hargs:denL η' [x,p]=some [xv,pv]:=by simp[denL,hxv,hpv]
    refine(hcall η' φ' w0 Ef w' [xv,pv] p3 hargs).mono ?_
    rintro e w2 ⟨ce,h1,η1,φ1,hk1,hl,hp,hce,hs1⟩
    cases ce with
    |panic v=>exact hk1.elim
    |ret v=>
     obtain⟨u1,_,rfl⟩:=hce
     simp only at hk1
     split at hk1
     ·rename_i us ob' hres
      simp only[fcP_eq,fcV_eq,fcL_eq]at hk1
      obtain⟨ho,hk1⟩:=hk1
      have hle:=Nam.le_of_pin p3 hp
      obtain⟨u2,hu2,hrun⟩:=run_results (P:=P) (s:=⟨s.T,h1,[]⟩) hE hs1 (p4.mono hle) hres ho
      exact⟨u2,hrun,.ret (resOne us),h1,η1,φ1,hk1,Nat.le_trans p2 hl,p1.trans hp p2,⟨u2,hu2,rfl⟩,hs1⟩
     ·exact hk1.elim
   ·exact hk.elim
  ·exact hk.elim
 show bodyPostD P fn _ e a w'
 have k:retKD E P fn.results.toList g q (fun v h1=> ∃ce' h2,K ce' h2∧EntC h.length (.ret v) h1 ce' h2) se s ob:=k
 unfold retKD at k
 split at k
 ·have pe:e= .normal:=pe
  subst pe
  exact main .inil .nilIface .returning k rfl (.inl ⟨rfl,rfl⟩)
 ·have pe:e= .ret:=pe
  subst pe
  exact main .inil .nilIface .returning k rfl (.inl ⟨rfl,rfl⟩)
 ·rename_i t v _
  obtain⟨u,hu,rfl⟩:=pe
  exact main (.iface t v) u (.panicking [{v:=u,recovered:=false}]) k hu (.inr rfl)
 ·exact k.elim
end Go.Sy
