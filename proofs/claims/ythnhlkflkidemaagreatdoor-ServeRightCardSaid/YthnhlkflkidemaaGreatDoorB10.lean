/-
  Parts: Sy11, Sy12, Sy13.
-/
import Derived.Test.YthnhlkflkidemaaGreatDoorB9
import Derived.Scope
set_option linter.unusedVariables false
set_option linter.unusedSimpArgs false
/-
 Sy11: straight regions, and code: X reads code in a symbolic state; what it comes to is what is left to be shown. No program is named.
-/
namespace Go.Sy
def seqK(K1:St→List Prop→Prop)(K:KS):KS:=fun se s ob=>match se with
 | .normal=>K1 s ob
 | .exit i=>K (.exit i) s ob
 | .goto l=>K (.goto l) s ob
 | .ret=>K .ret s ob
 | .panic v=>K (.panic v) s ob
def whL{α:Type}(l:List α)(k:List α→Prop):Prop:=
 match l with
 |[]=>k []
 |x::xs=>k (x::xs)
theorem whL_eq{α:Type}(l:List α)(k:List α→Prop):whL l k=k l:=by cases l<;>rfl
def runOps(E:Env)(P:Program)(r:Option Nat)(ops:List Oper):List Oper→St→List Prop→KS→Prop
 |[],s,ob,K=>K .normal s ob
 |o::os,s,ob,K=>whL s.T fun T=>whL s.H fun H=>whL s.D fun D=>evOp E P r ops o ⟨T,H,D⟩ ob (seqK (fun s ob=>runOps E P r ops os s ob K) K)
theorem runOps_cons{E:Env}{P:Program}{r:Option Nat}{ops:List Oper}{o:Oper}{os:List Oper}{s:St}{ob:List Prop}{K:KS} :runOps E P r ops (o::os) s ob K=evOp E P r ops o s ob (seqK (fun s ob=>runOps E P r ops os s ob K) K):=by
 rw[runOps,whL_eq,whL_eq,whL_eq]
theorem runOps_owed{E:Env}{P:Program}{r:Option Nat}{ops:List Oper}{K:KS}(hK:Good K): ∀(l:List Oper) (s:St) (ob:List Prop),runOps E P r ops l s ob K→AllP ob
 |[],s,ob,h=>hK _ _ _ h
 |o::os,s,ob,h=>by
  rw[runOps_cons]at h;refine evOp_owed (fun se s ob hk=>?_) h;cases se with
  |normal=>exact runOps_owed hK os s ob hk
  |_=>exact hK _ _ _ hk
theorem runOps_ok{E:Env}{P:Program}(hE:E.ok P){r:Option Nat}{n:Nat}{η0:Nam}{w0:World}{Ef:Nat→Prop}{K:KS}(hK:Good K){Q:Exit→Act→World→Prop}(hg:Goes n η0 w0 Ef K (Q .normal) Q)(ops:List Oper):
  ∀(l:List Oper) (k:Nat) (s:St) (ob:List Prop) (η:Nam) (φ:Feet) (a:Act) (w:World),(∀j,l[j]?=ops[k+j]?)→runOps E P r ops l s ob K→Rel n η0 w0 Ef s η φ a w→
   wpOpsIn (Fw r) 0 P ops.toArray Q (List.range' k l.length) a w
 |[],k,s,ob,η,φ,a,w,_,h,hr=>hg.next _ _ η φ a w h hr
 |o::os,k,s,ob,η,φ,a,w,hl,h,hr=>by
  rw[List.length_cons,List.range'_succ,wpOpsIn_cons];rw[runOps_cons]at h;have h0:=hl 0;simp only[List.getElem?_cons_zero,Nat.add_zero]at h0;refine evOp_ok (K:=seqK (fun s ob=>runOps E P r ops os s ob K) K) hE (fun se s ob hk=>?_) ⟨fun s ob η φ a w hk hr=>?_,fun v s ob η φ a w u hk hr hu=>hg.panic v s ob η φ a w u hk hr hu⟩ h0.symm h hr
  ·cases se with
   |normal=>exact runOps_owed hK os s ob hk
   |_=>exact hK _ _ _ hk
  ·refine runOps_ok hE hK hg ops os (k+1) s ob η φ a w (fun j=>?_) hk hr;have:=hl (j+1);simpa[Nat.add_assoc,Nat.add_comm 1]using this
def drawOf(P:Program)(r:Option Nat)(n:Nat)(id:Nat)(ops:Array Oper)(s:St)(ob:List Prop)(K:KS):Prop:=
 AllP ob∧CodeP P r n (.region id ops true) s fun se s=>K se s []
def X(E:Env)(P:Program)(r:Option Nat)(n:Nat)(c:Code)(s:St)(ob:List Prop)(K:KS):Prop:=
 match c with
 | .skip=>K .normal s ob
 | .label _=>K .normal s ob
 | .region id ops d=>match d with
  |false=>runOps E P r ops.toList ops.toList s ob K
  |true=>drawOf P r n id ops s ob K
 | .seq a b=>X E P r n a s ob (seqK (fun s ob=>X E P r n b s ob K) K)
 | .cond c a b=>match ldG s.T s.H c with
  |some (none,.bool v)=>fcP ob fun ob=>AllP ob∧(v=true→X E P r n a s [] K)∧(v=false→X E P r n b s [] K)
  |_=>False
 | .block id c=>X E P r n c s ob fun se s ob=>match se with
  | .normal=>K .normal s ob
  | .exit i=>if i=id then K .normal s ob else K (.exit i) s ob
  | .goto l=>K (.goto l) s ob
  | .ret=>K .ret s ob
  | .panic v=>K (.panic v) s ob
 | .loop c=>fcP ob fun ob=>AllP ob∧CodeP P r n (.loop c) s fun se s=>K se s []
 | .rangeFunc f ps a b=>fcP ob fun ob=>AllP ob∧CodeP P r n (.rangeFunc f ps a b) s fun se s=>K se s []
 | .exit id=>K (.exit id) s ob
 | .goto l=>K (.goto l) s ob
 | .ret=>K .ret s ob
 | .scope c=>match r with
  |none=>X E P r n c s ob fun se s ob=>match se with
   | .normal=>K .normal s ob
   | .exit i=>K (.exit i) s ob
   | .goto _=>False
   | .ret=>K .ret s ob
   | .panic v=>K (.panic v) s ob
  |some _=>False
 | .refuse _=>False
theorem X_owed{E:Env}{P:Program}{r:Option Nat}{n:Nat} : ∀(c:Code) (s:St) (ob:List Prop) (K:KS),Good K→X E P r n c s ob K→AllP ob:=by
 intro c;induction c with
 |skip=>exact fun s ob K hK h=>hK _ _ _ h
 |label=>exact fun s ob K hK h=>hK _ _ _ h
 |region id ops d=>
  intro s ob K hK h;cases d with
  |false=>exact runOps_owed hK _ _ _ h
  |true=>exact h.1
 |seq a b iha ihb=>
  intro s ob K hK h;refine iha s ob _ (fun se s ob hk=>?_) h;cases se with
  |normal=>exact ihb s ob K hK hk
  |_=>exact hK _ _ _ hk
 |cond c a b _ _=>
  intro s ob K hK h;simp only[X]at h;split at h
  ·rw[fcP_eq]at h;exact h.1
  ·exact h.elim
 |block id c ih=>
  intro s ob K hK h;refine ih s ob _ (fun se s ob hk=>?_) h;cases se with
  |exit i=>simp only at hk;split at hk<;>exact hK _ _ _ hk
  |_=>exact hK _ _ _ hk
 |loop c _=>intro s ob K hK h;simp only[X,fcP_eq]at h;exact h.1
 |rangeFunc f ps a b _ _=>intro s ob K hK h;simp only[X,fcP_eq]at h;exact h.1
 |exit id=>exact fun s ob K hK h=>hK _ _ _ h
 |goto l=>exact fun s ob K hK h=>hK _ _ _ h
 |ret=>exact fun s ob K hK h=>hK _ _ _ h
 |scope c ih=>
  intro s ob K hK h;cases r with
  |some _=>exact h.elim
  |none=>
   refine ih s ob _ (fun se s ob hk=>?_) h;cases se with
   |goto l=>exact hk.elim
   |_=>exact hK _ _ _ hk
 |refuse=>exact fun s ob K hK h=>h.elim
theorem Post.ex{n:Nat}{η0:Nam}{w0:World}{Ef:Nat→Prop}{K:SE→St→Prop}{se:SE}{e:Exit}{s:St}{η:Nam}{φ:Feet}{a:Act}{w:World}(hk:K se s)(he:eRel η se e)(hr:Rel n η0 w0 Ef s η φ a w):Post n η0 w0 Ef K e a w:=
 ⟨se,s,η,φ,hk,hr.pin,hr.len,he,hr.sat,hr.tmps,hr.defers⟩
theorem X_ok{E:Env}{P:Program}(hE:E.ok P){r:Option Nat}{n:Nat} : ∀(c:Code) (s:St) (ob:List Prop) (K:KS) (K0:SE→St→Prop),Good K→(∀se s ob,K se s ob→K0 se s)→X E P r n c s ob K→CodeP P r n c s K0:=by
 intro c;induction c with
 |skip=>exact fun s ob K K0 hK hKK h η0 η φ w0 Ef w a h1 h2 h3 h4 h5=>wpIn_skip (Post.ex (hKK _ _ _ h) rfl ⟨h1,h2,h3,h4,h5⟩)
 |label=>exact fun s ob K K0 hK hKK h η0 η φ w0 Ef w a h1 h2 h3 h4 h5=>wpIn_label (Post.ex (hKK _ _ _ h) rfl ⟨h1,h2,h3,h4,h5⟩)
 |region id ops d=>
  intro s ob K K0 hK hKK h η0 η φ w0 Ef w a h1 h2 h3 h4 h5;cases d with
  | true => exact wpIn_mono (h.2 η0 η φ w0 Ef w a h1 h2 h3 h4 h5) fun _ _ _ ⟨se, s', η', φ', k, q⟩ => ⟨se, s', η', φ', hKK _ _ _ k, q⟩
  |false=>
   refine wpIn_region ?_;have key:=runOps_ok (n:=n) hE hK (Q:=Post n η0 w0 Ef K0) ⟨fun s ob η φ a w hk hr=>Post.ex (hKK _ _ _ hk) rfl hr,fun v s ob η φ a w u hk hr hu=>Post.ex (hKK _ _ _ hk) ⟨u,hu,rfl⟩ hr⟩ ops.toList ops.toList 0 s ob η φ a w (fun j=>by simp) h ⟨h1,h2,h3,h4,h5⟩;rw[List.range_eq_range'];simpa using key
 |seq x y ihx ihy=>
  intro s ob K K0 hK hKK h η0 η φ w0 Ef w a h1 h2 h3 h4 h5;refine wpIn_seq ?_;have hx:=ihx s ob _ (fun se s=>match se with| .normal=>CodeP P r n y s K0|se=>K0 se s) (fun se s ob hk=>?_) (fun se s ob hk=>?_) h η0 η φ w0 Ef w a h1 h2 h3 h4 h5
  ·refine wpIn_mono hx ?_;rintro e a' w' ⟨se,s',η',φ',k,p1,p2,pe,p3,p4,p5⟩;cases se with
   |normal=>
    have pe:e= .normal:=pe;subst pe;exact k η0 η' φ' w0 Ef w' a' p1 p2 p3 p4 p5
   |exit i=>have pe:e= .exit i:=pe;subst pe;exact⟨_,s',η',φ',k,p1,p2,rfl,p3,p4,p5⟩
   |goto i=>have pe:e= .goto i:=pe;subst pe;exact⟨_,s',η',φ',k,p1,p2,rfl,p3,p4,p5⟩
   |ret=>have pe:e= .ret:=pe;subst pe;exact⟨_,s',η',φ',k,p1,p2,rfl,p3,p4,p5⟩
   |panic v=>obtain⟨u,hu,rfl⟩:=pe;exact⟨_,s',η',φ',k,p1,p2,⟨u,hu,rfl⟩,p3,p4,p5⟩
  ·cases se with
   |normal=>exact X_owed y s ob K hK hk
   |_=>exact hK _ _ _ hk
  ·cases se with
   |normal=>exact ihy s ob K K0 hK hKK hk
   |_=>exact hKK _ _ _ hk
 |cond c x y ihx ihy=>
  intro s ob K K0 hK hKK h η0 η φ w0 Ef w a h1 h2 h3 h4 h5;simp only[X]at h;split at h
  ·rename_i v hv;rw[fcP_eq]at h;have hd:=ldG_ok h3 h4 hv rfl;simp only[den,Option.some.injEq]at hd;refine wpIn_cond_split hd.symm (fun ht=>?_) (fun hf=>?_)
   ·exact ihx s [] K K0 hK hKK (h.2.1 ht) η0 η φ w0 Ef w a h1 h2 h3 h4 h5
   ·exact ihy s [] K K0 hK hKK (h.2.2 hf) η0 η φ w0 Ef w a h1 h2 h3 h4 h5
  ·exact h.elim
 |block id c ih=>
  intro s ob K K0 hK hKK h η0 η φ w0 Ef w a h1 h2 h3 h4 h5;refine wpIn_block ?_;have hx:=ih s ob _ (fun se s=>match se with| .exit i=>if i=id then K0 .normal s else K0 (.exit i) s|se=>K0 se s) (fun se s ob hk=>?_) (fun se s ob hk=>?_) h η0 η φ w0 Ef w a h1 h2 h3 h4 h5
  ·refine wpIn_mono hx ?_;rintro e a' w' ⟨se,s',η',φ',k,p1,p2,pe,p3,p4,p5⟩;cases se with
   |normal=>have pe:e= .normal:=pe;subst pe;exact⟨_,s',η',φ',k,p1,p2,rfl,p3,p4,p5⟩
   |exit i=>
    have pe:e= .exit i:=pe;subst pe;simp only[Exit.inBlock];simp only at k;split
    ·rename_i hi;rw[if_pos hi]at k;exact⟨_,s',η',φ',k,p1,p2,rfl,p3,p4,p5⟩
    ·rename_i hi;rw[if_neg hi]at k;exact⟨_,s',η',φ',k,p1,p2,rfl,p3,p4,p5⟩
   |goto i=>have pe:e= .goto i:=pe;subst pe;exact⟨_,s',η',φ',k,p1,p2,rfl,p3,p4,p5⟩
   |ret=>have pe:e= .ret:=pe;subst pe;exact⟨_,s',η',φ',k,p1,p2,rfl,p3,p4,p5⟩
   |panic v=>obtain⟨u,hu,rfl⟩:=pe;exact⟨_,s',η',φ',k,p1,p2,⟨u,hu,rfl⟩,p3,p4,p5⟩
  ·cases se with
   |exit i=>simp only at hk;split at hk<;>exact hK _ _ _ hk
   |_=>exact hK _ _ _ hk
  ·cases se with
   |exit i=>
    simp only at hk⊢;split at hk
    ·rename_i hi;rw[if_pos hi];exact hKK _ _ _ hk
    ·rename_i hi;rw[if_neg hi];exact hKK _ _ _ hk
   |_=>exact hKK _ _ _ hk
 |loop c _=>
  intro s ob K K0 hK hKK h;simp only[X,fcP_eq]at h;exact h.2.mono fun se s hk=>hKK _ _ _ hk
 |rangeFunc f ps x y _ _=>
  intro s ob K K0 hK hKK h;simp only[X,fcP_eq]at h;exact h.2.mono fun se s hk=>hKK _ _ _ hk
 |exit id=>exact fun s ob K K0 hK hKK h η0 η φ w0 Ef w a h1 h2 h3 h4 h5=>wpIn_exit (Post.ex (hKK _ _ _ h) rfl ⟨h1,h2,h3,h4,h5⟩)
 |goto l=>exact fun s ob K K0 hK hKK h η0 η φ w0 Ef w a h1 h2 h3 h4 h5=>wpIn_goto (Post.ex (hKK _ _ _ h) rfl ⟨h1,h2,h3,h4,h5⟩)
 |ret=>exact fun s ob K K0 hK hKK h η0 η φ w0 Ef w a h1 h2 h3 h4 h5=>wpIn_ret (Post.ex (hKK _ _ _ h) rfl ⟨h1,h2,h3,h4,h5⟩)
 |scope c ih=>
  intro s ob K K0 hK hKK h;cases r with
  |some _=>exact h.elim
  |none=>
   intro η0 η φ w0 Ef w a h1 h2 h3 h4 h5;have hx:=ih s ob _ (fun se s=>match se with| .goto _=>False|se=>K0 se s) (fun se s ob hk=>?_) (fun se s ob hk=>?_) h η0 η φ w0 Ef w a h1 h2 h3 h4 h5
   ·have hx':c.wp P (Post n η0 w0 Ef fun se s=>match se with| .goto _=>False|se=>K0 se s) a w:=wpIn_wide.1 hx;have:(Code.scope c).wp P (Post n η0 w0 Ef K0) a w:=by
     refine wp_scope_straight (wp_mono hx' ?_);rintro e a' w' ⟨se,s',η',φ',k,p1,p2,pe,p3,p4,p5⟩;cases se with
     |normal=>have pe:e= .normal:=pe;subst pe;exact⟨_,s',η',φ',k,p1,p2,rfl,p3,p4,p5⟩
     |exit i=>have pe:e= .exit i:=pe;subst pe;exact⟨_,s',η',φ',k,p1,p2,rfl,p3,p4,p5⟩
     |goto i=>exact k.elim
     |ret=>have pe:e= .ret:=pe;subst pe;exact⟨_,s',η',φ',k,p1,p2,rfl,p3,p4,p5⟩
     |panic v=>obtain⟨u,hu,rfl⟩:=pe;exact⟨_,s',η',φ',k,p1,p2,⟨u,hu,rfl⟩,p3,p4,p5⟩
    exact wpIn_wide.2 this
   ·cases se with
    |goto l=>exact hk.elim
    |_=>exact hK _ _ _ hk
   ·cases se with
    |goto l=>exact hk.elim
    |_=>exact hKK _ _ _ hk
 |refuse=>exact fun s ob K K0 hK hKK h=>h.elim
def resL(E:Env)(s:St):List ResultVar→Option (List SV×List Prop)
 |[]=>some ([],[])
 | .tmp t::rs=>match s.T[t]?,resL E s rs with
  |some (some (none,v)),some (vs,ob)=>some (v::vs,ob)
  |_,_=>none
 | .cell a t::rs=>match s.T[a]?,resL E s rs with
  |some (some (none,x)),some (vs,ob)=>match evLoad E t x s.H with
   |some q=>some (q.v::vs,q.ob++ob)
   |none=>none
  |_,_=>none
def resOne:List SV→SV
 |[v]=>v
 |vs=> .tup vs
def retKS(E:Env)(rs:List ResultVar)(K:CE→SHeap→Prop):KS:=fun se s ob=>
 match se,s.D with
 | .normal,[]=>match resL E s rs with
  | some (vs, ob') => fcP (ob' ++ ob) fun ob => AllP ob ∧ fcV (resOne vs) fun v => K (.ret v) s.H
  |none=>False
 | .ret,[]=>match resL E s rs with
  | some (vs, ob') => fcP (ob' ++ ob) fun ob => AllP ob ∧ fcV (resOne vs) fun v => K (.ret v) s.H
  |none=>False
 | .panic v,[]=>fcP ob fun ob=>AllP ob∧K (.panic v) s.H
 |_,_=>False
theorem retKS_good(E:Env)(rs:List ResultVar)(K:CE→SHeap→Prop):Good (retKS E rs K):=by
 intro se s ob h;unfold retKS at h;split at h
 ·split at h
  ·rw[fcP_eq]at h;exact AllP_app h.1
  ·exact h.elim
 ·split at h
  ·rw[fcP_eq]at h;exact AllP_app h.1
  ·exact h.elim
 ·rw[fcP_eq]at h;exact h.1
 ·exact h.elim
theorem resL_ok{E:Env}{P:Program}(hE:E.ok P){s:St}{η:Nam}{φ:Feet}{a:Act}{w0 w:World}{Ef:Nat→Prop}(hs:Sat η φ s.H w0 Ef w)(ht:TRel η s.T a.tmps): ∀{rs:List ResultVar} {vs:List SV} {ob:List Prop},resL E s rs=some (vs,ob)→AllP ob→
  ∃us,denL η vs=some us∧(rs.mapM (fun rv=>match rv with
   | .tmp t=>pure (a.tmps.getD t undef)
   | .cell x t=>do loadVar t (←asAddr (a.tmps.getD x undef)):ResultVar→Sem Value)).run P w= .ok us w
 |[],vs,ob,h,_=>by
  simp only[resL,Option.some.injEq,Prod.mk.injEq]at h;obtain⟨rfl,rfl⟩:=h;exact⟨[],rfl,by simp⟩
 | .tmp t::rs,vs,ob,h,ho=>by
  simp only[resL]at h;split at h
  ·rename_i v vs' ob' hT hrs;simp only[Option.some.injEq,Prod.mk.injEq]at h;obtain⟨rfl,rfl⟩:=h;obtain⟨us,h1,h2⟩:=resL_ok hE hs ht hrs ho;obtain⟨u,h3,h4⟩:=(ht.2 t none v hT).1 rfl;refine⟨u::us,denL_cons.2 ⟨u,us,h3,h1,rfl⟩,?_⟩;have e0:a.tmps.getD t undef=u:=by simp[Array.getD_eq_getD_getElem?,h4]
   simp only[List.mapM_cons,e0,Sem.run_bind,Sem.run_pure,Result.andThen_ok,h2]
  ·cases h
 | .cell x t::rs,vs,ob,h,ho=>by
  simp only[resL]at h;split at h
  ·rename_i xv vs' ob' hT hrs;split at h
   ·rename_i q hq;simp only[Option.some.injEq,Prod.mk.injEq]at h;obtain⟨rfl,rfl⟩:=h;rw[AllP_iff]at ho;obtain⟨us,h1,h2⟩:=resL_ok hE hs ht hrs (AllP_iff.2 fun p hp=>ho p (List.mem_append_right _ hp));obtain⟨u,h3,h4⟩:=(ht.2 x none xv hT).1 rfl;obtain⟨_,v,h5,h6⟩:=evLoad_ok (P:=P) hE hq (fun p hp=>ho p (List.mem_append_left _ hp)) hs h3;refine⟨v::us,denL_cons.2 ⟨v,us,h5,h1,rfl⟩,?_⟩;have e0:a.tmps.getD x undef=u:=by simp[Array.getD_eq_getD_getElem?,h4]
    have h7:(do loadVar t (←asAddr u):Sem Value).run P w= .ok v w:=by
     cases u with
     |pointer p=>
      cases p with
      |none=>simp[Instr.loadAt,Instr.sureAddr]at h6
      |some p=>simpa[Instr.loadAt,Instr.sureAddr,asAddr]using h6
     |_=>simp[Instr.loadAt,Instr.sureAddr]at h6
    simp only[List.mapM_cons,e0];rw[Sem.run_bind,h7];simp only[Result.andThen_ok,Sem.run_bind,h2,Sem.run_pure]
   ·cases h
  ·cases h
theorem run_results{E:Env}{P:Program}(hE:E.ok P){s:St}{η:Nam}{φ:Feet}{a:Act}{w0 w:World}{Ef:Nat→Prop}(hs:Sat η φ s.H w0 Ef w)(ht:TRel η s.T a.tmps){fn:Func}{vs:List SV}{ob:List Prop}(h:resL E s fn.results.toList=some (vs,ob))(ho:AllP ob):
  ∃u,den η (resOne vs)=some u∧(results fn a.tmps).run P w= .ok u w:=by
 obtain⟨us,h1,h2⟩:=resL_ok (P:=P) hE hs ht h ho;have h3:(fn.results.mapM (fun rv=>match rv with
   | .tmp t=>pure (a.tmps.getD t undef)
   | .cell x t=>do loadVar t (←asAddr (a.tmps.getD x undef)):ResultVar→Sem Value)).run P w= .ok us.toArray w:=by
  rw[Array.mapM_eq_mapM_toList,Sem.run_map,h2];rfl
 have hl:=denL_length h1;have hrun:(results fn a.tmps).run P w= .ok (if h:us.toArray.size=1 then us.toArray[0]else .tuple us.toArray) w:=by
  unfold results;rw[Sem.run_bind];have h3':=h3;refine Eq.trans (congrArg (fun x=>Result.andThen x _) h3') ?_;simp only[Result.andThen_ok,Sem.run_pure]
 rw[hrun];match vs,us,h1,hl with
 |[v],[u],h1,_=>
  obtain⟨b,bs,h5,h6,h7⟩:=denL_cons.1 h1;cases h7;exact⟨u,h5,by simp⟩
 |[],[],_,_=>exact⟨.tuple #[],by simp[resOne,den,denL],by simp⟩
 |v::v'::vs,u::u'::us,h1,_=>
  refine⟨.tuple (u::u'::us).toArray,by simp only[resOne,den,h1,Option.map_some],?_⟩;rw[dif_neg (by simp)]
def initT(args:List SV)(ntmps:Nat):Tm:=args.map (fun v=>some (none,v))++List.replicate (ntmps-args.length) none
theorem initT_ok{η:Nam}{args:List SV}{vs:List Value}(hd:denL η args=some vs)(nt:Nat):TRel η (initT args nt) (vs.toArray++Array.replicate (nt-vs.toArray.size) undef):=by
 have hl:=denL_length hd;refine⟨by simp[initT,hl],fun k g sv hk=>?_⟩;unfold initT at hk;rw[List.getElem?_append]at hk;split at hk
 ·rename_i hlt;rw[List.getElem?_map]at hk;simp only[Option.map_eq_some_iff,Option.some.injEq,Prod.mk.injEq]at hk;obtain⟨v,hv,rfl,rfl⟩:=hk;obtain⟨u,h1,h2⟩:=denL_get hd hv;simp at hlt;refine⟨fun _=>⟨u,h1,?_⟩,fun hf=>by cases hf⟩;rw[Array.getElem?_append,if_pos (by simp;omega)];simpa using h2
 ·rw[List.getElem?_replicate]at hk;split at hk<;>simp at hk
theorem callP_enter{E:Env}{P:Program}(hE:E.ok P){f:Nat}{fn:Func}{c:Code}{args:List SV}{h:SHeap}{K:CE→SHeap→Prop}(hf:P.funcs[f]?=some fn)(hb:fn.body=some c)
  (hx:X E P none h.length c ⟨initT args fn.ntmps,h,[]⟩ [] (retKS E fn.results.toList K)):CallP P f args h K:=by
 intro η φ w0 Ef w vs hs hd;have hc:=X_ok hE c _ _ _ (fun se s=> ∃ob,retKS E fn.results.toList K se s ob) (retKS_good E fn.results.toList K) (fun se s ob hk=>⟨ob,hk⟩) hx η η φ w0 Ef w {tmps:=vs.toArray++Array.replicate (fn.ntmps-vs.toArray.size) undef,defers:=[]} (Pin.refl _ _) (Nat.le_refl _) hs (initT_ok hd _) rfl;refine calls_of_wp hf hb (wp_mono (wpIn_wide.1 hc) ?_);rintro e a w' ⟨se,s,η',φ',⟨ob,k⟩,p1,p2,pe,p3,p4,p5⟩;unfold retKS at k;split at k
 ·rename_i hD;split at k
  ·rename_i us ob' hr;rw[fcP_eq,fcV_eq]at k;obtain⟨ko,k⟩:=k;obtain⟨u,h1,h2⟩:=run_results (P:=P) hE p3 p4 hr (AllP_iff.2 fun p hp=>AllP_iff.1 ko p (List.mem_append_left _ hp));have pe:e= .normal:=pe;subst pe;rw[hD]at p5
   exact⟨by simpa[DRel]using p5.symm,u,h2,_,_,η',φ',k,p2,p1,⟨u,h1,rfl⟩,p3⟩
  ·exact k.elim
 ·rename_i hD;split at k
  ·rename_i us ob' hr;rw[fcP_eq,fcV_eq]at k;obtain⟨ko,k⟩:=k;obtain⟨u,h1,h2⟩:=run_results (P:=P) hE p3 p4 hr (AllP_iff.2 fun p hp=>AllP_iff.1 ko p (List.mem_append_left _ hp));have pe:e= .ret:=pe;subst pe;rw[hD]at p5
   exact⟨by simpa[DRel]using p5.symm,u,h2,_,_,η',φ',k,p2,p1,⟨u,h1,rfl⟩,p3⟩
  ·exact k.elim
 ·rename_i v hD;rw[fcP_eq]at k;obtain⟨u,hu,rfl⟩:=pe;rw[hD]at p5
  exact⟨by simpa[DRel]using p5.symm,_,_,η',φ',k.2,p2,p1,⟨u,hu,rfl⟩,p3⟩
 ·exact k.elim
def renO(σ:Nat→Nat):SObj→SObj
 | .dead=> .dead
 | .cells cs=> .cells (renL σ cs)
 | .arr sz n cap get=> .arr sz n cap fun k=>renL σ (get k)
 | .roc cs=> .roc (renL σ cs)
 | .roa sz n get=> .roa sz n fun k=>renL σ (get k)
 | .glob g cs=> .glob g (renL σ cs)
 | .obj I=> .obj I
 | .ext R=> .ext R
 | .memo n F has=> .memo n F has
 | .loopr T ps a b st p=> .loopr (renT σ T) ps a b st p
 | .vec sz n get=> .vec sz n fun k=>renL σ (get k)
 | .cmap m=> .cmap m
 | .citer l c=> .citer l c
 | .gmap g m=> .gmap g m
 | .giter g l c=> .giter g l c
 | .pack ns ob=> .pack (ns.map σ) ob
 | .pool o n l g=> .pool o n l g
def renC(σ:Nat→Nat):CE→CE
 | .ret v=> .ret (ren σ v)
 | .panic v=> .panic (ren σ v)
theorem renO_rw(σ:Nat→Nat)(o:SObj):(renO σ o).rw=o.rw:=by cases o<;>rfl
theorem renO_foot(σ:Nat→Nat)(o:SObj)(a:Nat×Nat)(F:Nat→Prop)(b:Nat):(renO σ o).foot a F b↔o.foot a F b:=by cases o<;>rfl
theorem renO_holds{η η':Nam}{σ:Nat→Nat}(hη:(fun i=>η (σ i))=η')(o:SObj)(a:Nat×Nat)(F:Nat→Prop)(w:World):(renO σ o).holds η a F w↔o.holds η' a F w:=by
 subst hη;cases o<;>simp only[renO,SObj.holds,denL_ren,relT_ren,List.map_map];rfl
def TLe(σ:Nat→Nat):List (Option SV)→List (Option SV)→Prop
 |[],[]=>True
 |_::xs,none::ys=>TLe σ xs ys
 |some v::xs,some v'::ys=>v=ren σ v'∧TLe σ xs ys
 |_,_=>False
theorem TLe.get{F:Nat→Nat} : ∀{S T:List (Option SV)},TLe F S T→S.length=T.length∧ ∀(k:Nat) (v:SV),T[k]?=some (some v)→S[k]?=some (some (ren F v))
 |[],[],_=>⟨rfl,fun k v h=>by simp at h⟩
 |[],none::_,h=>h.elim
 |[],some _::_,h=>h.elim
 |_::_,[],h=>h.elim
 |none::_,some _::_,h=>h.elim
 |x::xs,none::ys,h=>by
  have h:TLe F xs ys:=by cases x<;>exact h
  obtain⟨e,hg⟩:=TLe.get h;refine⟨by simp[e],fun k v hk=>?_⟩;cases k with
  |zero=>simp at hk
  |succ k=>simpa using hg k v (by simpa using hk)
 |some v::xs,some v'::ys,h=>by
  obtain⟨rfl,h⟩:=h;obtain⟨e,hg⟩:=TLe.get h;refine⟨by simp[e],fun k v hk=>?_⟩;cases k with
  |zero=>simp at hk;subst hk;simp
  |succ k=>simpa using hg k v (by simpa using hk)
theorem TLe.rel{η:Nam}{σ:Nat→Nat}{S T:List (Option SV)}(h:TLe σ S T){tmps:Array Value}(hr:relT η S tmps):relT (fun i=>η (σ i)) T tmps:=by
 obtain⟨e,hg⟩:=h.get;refine⟨by rw[hr.1,e],fun k sv hk=>?_⟩;obtain⟨v,h1,h2⟩:=hr.2 k _ (hg k sv hk);exact⟨v,by rwa [den_ren]at h1,h2⟩
def ObjLe(σ:Nat→Nat):SObj→SObj→Prop
 | .cells cs,.cells cs0=>cs=renL σ cs0
 | .cells cs,.roc cs0=>cs=renL σ cs0
 | .roc cs,.roc cs0=>cs=renL σ cs0
 | .glob _ cs,.roc cs0=>cs=renL σ cs0
 | .glob g cs,.glob g0 cs0=>g=g0∧cs=renL σ cs0
 | .arr sz n cap get,.arr sz0 n0 cap0 get0=>sz=sz0∧n=n0∧cap=cap0∧ ∀k,k<n→get k=renL σ (get0 k)
 | .arr sz n _ get,.roa sz0 n0 get0=>sz=sz0∧n=n0∧ ∀k,k<n→get k=renL σ (get0 k)
 | .roa sz n get,.roa sz0 n0 get0=>sz=sz0∧n=n0∧ ∀k,k<n→get k=renL σ (get0 k)
 | .obj I,.obj I0=> ∀o,I o→I0 o
 | .ext R,.ext R0=>R=R0
 | .memo n F has,.memo n0 F0 has0=>n=n0∧F=F0∧(has0=[]∨has=has0)
 | .loopr T ps a b st p,.loopr T0 ps0 a0 b0 st0 p0=>TLe σ T T0∧ps=ps0∧a=a0∧b=b0∧st=st0∧p=p0
 | .vec sz n get,.vec sz0 n0 get0=>sz=sz0∧n=n0∧ ∀k,k<n→get k=renL σ (get0 k)
 | .cmap m,.cmap m0=>m=m0
 | .citer l c,.citer l0 c0=>l=l0∧c=c0
 | .gmap g m,.gmap g0 m0=>g=g0∧m=m0
 | .giter g l c,.giter g0 l0 c0=>g=g0∧l=l0∧c=c0
 | .pack ns ob,.pack ns0 ob0=>ns=ns0.map σ∧ob=ob0
 | .pool o n l g,.pool o0 n0 l0 g0=>(o0=false∨o=o0)∧n=n0∧(∀k,k<n→l k=l0 k)∧ ∀k,k<n→ ∀m,m<l k→g k m=g0 k m
 |_,.dead=>True
 |_,_=>False
theorem ObjLe.rw{σ:Nat→Nat}{o o0:SObj}(h:ObjLe σ o o0)(h0:o0.rw=true):o.rw=true:=by
 cases o<;>cases o0<;>simp_all[ObjLe,SObj.rw]
theorem ObjLe.foot{σ:Nat→Nat}{o o0:SObj}(h:ObjLe σ o o0)(a:Nat×Nat)(F:Nat→Prop)(b:Nat):o0.foot a F b→o.foot a F b:=by
 cases o<;>cases o0<;>first|exact h.elim|exact id|exact False.elim
theorem ObjLe.holds{η:Nam}{σ:Nat→Nat}{o o0:SObj}(h:ObjLe σ o o0){a:Nat×Nat}{F:Nat→Prop}{w:World}(hh:o.holds η a F w):o0.holds (fun i=>η (σ i)) a F w:=by
 cases o<;>cases o0<;>simp only[ObjLe]at h<;>first|exact h.elim|exact tU|skip
 case cells.cells=>subst h;simpa only[SObj.holds,denL_ren]using hh
 case cells.roc=>
  subst h;simp only[SObj.holds,denL_ren]at hh⊢;obtain⟨h0,T,vs,hd,hw⟩:=hh;refine⟨vs.toArray,T,(0,0),vs,hw,hd,fun j v hj=>?_⟩;rw[h0];simpa using hj
 case roc.roc=>subst h;simpa only[SObj.holds,denL_ren]using hh
 case glob.roc=>
  subst h;simp only[SObj.holds,denL_ren]at hh⊢;exact hh.2
 case glob.glob=>obtain⟨rfl,rfl⟩:=h;simpa only[SObj.holds,denL_ren]using hh
 case arr.arr=>
  obtain⟨rfl,rfl,rfl,hg⟩:=h;simp only[SObj.holds]at hh⊢;obtain⟨h0,T,c,h1,h2,h3,h4⟩:=hh;refine⟨h0,T,c,h1,h2,h3,fun k hk=>?_⟩;have:=h4 k hk;rwa [hg k hk,denL_ren]at this
 case arr.roa=>
  obtain⟨rfl,rfl,hg⟩:=h;simp only[SObj.holds]at hh⊢;obtain⟨h0,T,c,h1,h2,h3,h4⟩:=hh;refine⟨c,T,(0,0),h1,fun k hk=>?_⟩;have:=h4 k hk;rw[hg k hk,denL_ren]at this;obtain⟨vs,p,q,r⟩:=this;exact⟨vs,p,q,fun j v hj=>by rw[h0,Nat.zero_add];exact r j v hj⟩
 case roa.roa=>
  obtain⟨rfl,rfl,hg⟩:=h;simp only[SObj.holds]at hh⊢;obtain⟨c,T,fz,h1,h4⟩:=hh;refine⟨c,T,fz,h1,fun k hk=>?_⟩;have:=h4 k hk;rwa [hg k hk,denL_ren]at this
 case obj.obj=>
  simp only[SObj.holds]at hh⊢;obtain⟨ob,h1,h2⟩:=hh;exact⟨ob,h1,h _ h2⟩
 case ext.ext=>subst h;exact hh
 case memo.memo=>
  obtain⟨rfl,rfl,h⟩:=h;rcases h with rfl|rfl
  ·obtain⟨ob,h1,es,clock,h2,h3,_⟩:=hh;exact⟨ob,h1,es,clock,h2,h3,fun ks hks=>by cases hks⟩
  ·exact hh
 case loopr.loopr=>
  obtain⟨hT,rfl,rfl,rfl,rfl,rfl⟩:=h;simp only[SObj.holds]at hh⊢;obtain⟨fn,d,tmps,h1,h2⟩:=hh;exact⟨fn,d,tmps,hT.rel h1,h2⟩
 case cmap.cmap=>subst h;exact hh
 case citer.citer=>obtain⟨rfl,rfl⟩:=h;exact hh
 case gmap.gmap=>obtain⟨rfl,rfl⟩:=h;exact hh
 case giter.giter=>obtain⟨rfl,rfl,rfl⟩:=h;exact hh
 case pack.pack=>
  obtain⟨rfl,rfl⟩:=h;simp only[SObj.holds,List.map_map]at hh⊢;exact hh
 case pool.pool=>
  obtain⟨_,rfl,hl,hg⟩:=h;intro k hk;rcases hh k hk with⟨h1,h2⟩|⟨b,T,c,h1,h3,h4⟩
  ·exact .inl ⟨h1,by rw[←hl k hk];exact h2⟩
  ·exact .inr ⟨b,T,c,h1,h3,fun m hm=>by rw[←hl k hk]at hm;rw[←hg k hk m hm];exact h4 m hm⟩
 case vec.vec=>
  obtain⟨rfl,rfl,hg⟩:=h;simp only[SObj.holds]at hh⊢;obtain⟨h0,hF,hh⟩:=hh;refine⟨h0,hF,?_⟩;rcases hh with hh|⟨hn,T,b,cap,T',c,h1,h2,h3,h4,h5,h6,h7,h8⟩
  ·exact .inl hh
  ·refine .inr ⟨hn,T,b,cap,T',c,h1,h2,h3,h4,h5,h6,h7,fun k hk=>?_⟩;have:=h8 k hk;rwa [hg k hk,denL_ren]at this
def sig(σ:List Nat)(n:Nat)(i:Nat):Nat:=
 match σ[i]? with
 |some j=>j
 |none=>n+(i-σ.length)
def Fits(F:Nat→Nat)(h:SHeap):List Nat→SHeap→Prop
 |[],[]=>True
 |j::σ,some o0::h0=>(match h[j]? with
  |some (some o)=>ObjLe F o o0
  |_=>False)∧Fits F h σ h0
 |_,_=>False
theorem Fits.get{F:Nat→Nat}{h:SHeap} : ∀{σ:List Nat} {h0:SHeap},Fits F h σ h0→σ.length=h0.length∧ ∀i,i<h0.length→ ∃j o0 o,σ[i]?=some j∧h0[i]?=some (some o0)∧h[j]?=some (some o)∧ObjLe F o o0
 |[],[],_=>⟨rfl,fun i hi=>by simp at hi⟩
 |[],_::_,h=>h.elim
 |_::_,[],h=>h.elim
 |_::_,none::_,h=>h.elim
 |j::σ,some o0::h0,hf=>by
  obtain⟨h1,h2⟩:=hf;obtain⟨e,hg⟩:=Fits.get h2;refine⟨by simp[e],fun i hi=>?_⟩;cases i with
  |zero=>
   split at h1
   ·rename_i o ho;exact⟨j,o0,o,rfl,rfl,ho,h1⟩
   ·exact h1.elim
  |succ i=>
   obtain⟨j',o0',o',p⟩:=hg i (by simpa using hi);exact⟨j',o0',o',by simpa using p⟩
def rwAt(h0:SHeap)(i:Nat):Bool:=
 match h0[i]? with
 |some (some o)=>o.rw
 |_=>false
def Apart:List Nat→SHeap→Prop
 |[],_=>True
 |j::σ,h0=>(match h0.head? with
  |some (some o)=>(o.rw=true→ ∀j'∈σ,j'≠j)
  |_=>True)∧(∀i j',σ[i]?=some j'→rwAt h0 (i+1)=true→j'≠j)∧Apart σ h0.tail
theorem Apart.ne: ∀{σ:List Nat} {h0:SHeap},Apart σ h0→ ∀{i k j j':Nat},i≠k→σ[i]?=some j→σ[k]?=some j'→rwAt h0 i=true→j≠j'
 |[],_,_,_,_,_,_,_,h1,_,_=>by simp at h1
 |x::σ,h0,ha,i,k,j,j',hik,h1,h2,hr=>by
  obtain⟨a1,a2,a3⟩:=ha;cases i with
  |zero=>
   cases k with
   |zero=>exact(hik rfl).elim
   |succ k=>
    simp at h1 h2;subst h1;cases h0 with
    |nil=>simp[rwAt]at hr
    |cons o h0=>
     cases o with
     |none=>simp[rwAt]at hr
     |some o=>
      simp only[List.head?_cons]at a1;have:o.rw=true:=by simpa[rwAt]using hr
      exact fun e=>a1 this j' (List.mem_of_getElem? h2) e.symm
  |succ i=>
   simp at h1;cases k with
   |zero=>
    simp at h2;subst h2;exact a2 i j h1 hr
   |succ k=>
    simp at h2;refine Apart.ne a3 (fun e=>hik (by omega)) h1 h2 ?_;cases h0 with
    |nil=>simp[rwAt]at hr
    |cons o h0=>simpa[rwAt]using hr
def Own(h0 h':SHeap):Prop:= ∀i o,(h0.length≤i∨rwAt h0 i=true)→h'[i]?=some (some o)→o.rw=true∨o= .dead
def putH(F:Nat→Nat)(h0 h':SHeap):List Nat→Nat→SHeap→SHeap
 |[],_,h=>h
 |j::σ,i,h=>putH F h0 h' σ (i+1) (if rwAt h0 i then h.set j ((h'[i]?).bind fun o=>o.map (renO F))else h)
def newH(F:Nat→Nat)(h:SHeap):SHeap:=h.map fun o=>o.map (renO F)
def updH(σ:List Nat)(h h0 h':SHeap):SHeap:=putH (sig σ h.length) h0 h' σ 0 h++newH (sig σ h.length) (h'.drop h0.length)
theorem putH_length{F:Nat→Nat}{h0 h':SHeap} : ∀{σ:List Nat} {i:Nat} {h:SHeap},(putH F h0 h' σ i h).length=h.length
 |[],_,_=>rfl
 |j::σ,i,h=>by rw[putH,putH_length];split<;>simp
theorem putH_other{F:Nat→Nat}{h0 h':SHeap}{j:Nat} : ∀{σ:List Nat} {i:Nat} {h:SHeap},(∀k,σ[k]?=some j→rwAt h0 (i+k)=false)→(putH F h0 h' σ i h)[j]?=h[j]?
 |[],_,_,_=>rfl
 |x::σ,i,h,hn=>by
  rw[putH,putH_other (fun k hk=>by have:=hn (k+1) (by simpa using hk);rwa [show i+(k+1)=i+1+k by omega]at this)];split
  ·rename_i hr;rw[List.getElem?_set_ne];intro e;have:=hn 0 (by simp[e]);simp[hr]at this
  ·rfl
theorem putH_at{F:Nat→Nat}{h0 h':SHeap}{j k:Nat} : ∀{σ:List Nat} {i:Nat} {h:SHeap},j<h.length→σ[k]?=some j→rwAt h0 (i+k)=true→(∀k',k'≠k→σ[k']?≠some j)→(putH F h0 h' σ i h)[j]?=some ((h'[i+k]?).bind fun o=>o.map (renO F))
 |[],_,_,_,hk,_,_=>by simp at hk
 |x::σ,i,h,hj,hk,hr,hn=>by
  rw[putH];cases k with
  |zero=>
   simp at hk;subst hk;rw[putH_other (fun k hk=>absurd (by simpa using hk) (hn (k+1) (by omega)))];rw[Nat.add_zero]at hr⊢;rw[if_pos hr];simp[hj]
  |succ k=>
   rw[show i+(k+1)=i+1+k by omega]at hr⊢;refine putH_at (by split<;>simpa using hj) (by simpa using hk) hr fun k' hne=>?_
   have:=hn (k'+1) (by omega);simpa using this
theorem lt_of_get{h:SHeap}{i:Nat}{x:Option SObj}(e:h[i]?=some x):i<h.length:=by
 rcases Nat.lt_or_ge i h.length with hl|hl
 ·exact hl
 ·rw[List.getElem?_eq_none hl]at e;cases e
theorem CallG.frame{C0 C:Nam→List Value→World→(Ending→World→Prop)→Prop}{a0 args:List SV}{h0 h:SHeap}{K0 K:CE→SHeap→Prop}(hc:CallG C0 a0 h0 K0)(σ:List Nat)
    (hf:Fits (sig σ h.length) h σ h0) (hap:Apart σ h0) (ha:renL (sig σ h.length) a0=args)
    (hC: ∀(η:Nam) (vs:List Value) (w:World) (R R':Ending→World→Prop),(∀e w',R e w'→R' e w')→C0 (fun i=>if i<h0.length then η (sig σ h.length i)else none) vs w R→C η vs w R')
    (hk: ∀ce h',K0 ce h'→Own h0 h'∧K (renC (sig σ h.length) ce) (updH σ h h0 h')):CallG C args h K:=by
  intro η φ w0 Ef w vs hs hd
  obtain⟨hlen,hget⟩:=hf.get
  have hsig: ∀i,i<h0.length→ ∃j,σ[i]?=some j∧sig σ h.length i=j∧j<h.length:=fun i hi=>by
    obtain⟨j,o0,o,e1,e2,e3,e4⟩:=hget i hi
    exact⟨j,e1,by simp[sig,e1],lt_of_get e3⟩
  have hsig2: ∀i,h0.length≤i→sig σ h.length i=h.length+(i-h0.length):=fun i hi=>by
    simp[sig,List.getElem?_eq_none (by omega:σ.length≤i),hlen]
  have hinj: ∀i k,i<h0.length→k<h0.length→i≠k→rwAt h0 i=true→sig σ h.length i≠sig σ h.length k:=fun i k hi hk hik hr=>by
    obtain⟨j,e1,e2,_⟩:=hsig i hi
    obtain⟨j',e1',e2',_⟩:=hsig k hk
    rw[e2,e2']
    exact hap.ne hik e1 e1' hr
  let F:=sig σ h.length
  let η0:Nam:=fun i=>if i<h0.length then η (F i)else none
  let φ0:Feet:=fun i=>φ (F i)
  let Ef0:Nat→Prop:=fun b=> ∃i o0 a,h0[i]?=some (some o0)∧o0.rw=true∧η (F i)=some a∧o0.foot a (φ (F i)) b
  have hη0: ∀i,i<h0.length→η0 i=η (F i):=fun i hi=>if_pos hi
  have hη0n: ∀i,¬i<h0.length→η0 i=none:=fun i hi=>if_neg hi
  have hηnone: ∀j,h.length≤j→η j=none:=fun j hj=>by
    cases e:η j with
    |none=>rfl
    |some a=>
      obtain⟨o,ho⟩:=hs.dom j a e
      have:=lt_of_get ho
      omega
  have hηF:(fun i=>η (F i))=η0:=funext fun i=>by
    by_cases hi:i<h0.length
    · exact(hη0 i hi).symm
    · rw[hη0n i hi]
      exact hηnone _ (by show h.length≤sig σ h.length i;rw[hsig2 i (by omega)];omega)
  have hent: ∀i o0,h0[i]?=some (some o0)→i<h0.length∧ ∃o,h[F i]?=some (some o)∧ObjLe F o o0:=fun i o0 e=>by
    have hi:=lt_of_get e
    obtain⟨j,o0',o,e1,e2,e3,e4⟩:=hget i hi
    rw[e]at e2;cases e2
    refine⟨hi,o,?_,e4⟩
    obtain⟨j',e1',e2',_⟩:=hsig i hi
    rw[e1]at e1';cases e1'
    show h[sig σ h.length i]?=_
    rw[e2'];exact e3
  have hEf: ∀b,Ef0 b→Ef b∨w0.heap.size≤b:=fun b ⟨i,o0,a,e1,e2,e3,e4⟩=>by
    obtain⟨_,o,e5,e6⟩:=hent i o0 e1
    exact hs.own _ o a b e5 e3 (e6.rw e2) (e6.foot a _ b e4)
  have hEfw: ∀b,Ef0 b→b<w.heap.size:=fun b ⟨i,o0,a,e1,e2,e3,e4⟩=>by
    obtain⟨_,o,e5,e6⟩:=hent i o0 e1
    exact hs.bnd _ o a b e5 e3 (e6.foot a _ b e4)
  have hs0:Sat η0 φ0 h0 w Ef0 w:=
    { size := Nat.le_refl _
      env:= .refl w
      keep:=fun _ _ _=>rfl
      dom:=fun i a e=>by
        by_cases hi:i<h0.length
        · obtain⟨j,o0,o,e1,e2,e3,e4⟩:=hget i hi
          exact⟨o0,e2⟩
        · rw[hη0n i hi]at e;cases e
      named:=fun i o0 e=>by
        obtain⟨hi,o,e5,e6⟩:=hent i o0 e
        rw[hη0 i hi]
        exact hs.named _ o e5
      holds:=fun i o0 a e ea=>by
        obtain⟨hi,o,e5,e6⟩:=hent i o0 e
        rw[hη0 i hi]at ea
        have:=e6.holds (hs.holds _ o a e5 ea)
        rwa [hηF]at this
      bnd:=fun i o0 a b e ea eb=>by
        obtain⟨hi,o,e5,e6⟩:=hent i o0 e
        rw[hη0 i hi]at ea
        exact hs.bnd _ o a b e5 ea (e6.foot a _ b eb)
      own:=fun i o0 a b e ea er eb=>by
        obtain⟨hi,o,e5,e6⟩:=hent i o0 e
        rw[hη0 i hi]at ea
        exact .inl ⟨i,o0,a,e,er,ea,eb⟩
      sep:=fun i k oi ok ai ak b hik ei ek eai eak er eb ebk=>by
        obtain⟨hi,o,e5,e6⟩:=hent i oi ei
        obtain⟨hk,o',e5',e6'⟩:=hent k ok ek
        rw[hη0 i hi]at eai
        rw[hη0 k hk]at eak
        exact hs.sep _ _ o o' ai ak b (hinj i k hi hk hik (by simp[rwAt,ei,er])) e5 e5' eai eak (e6.rw er) (e6.foot _ _ b eb) (e6'.foot _ _ b ebk)}
  have hd0:denL η0 a0=some vs:=by
    rw[←hηF,←denL_ren]
    rw[←ha]at hd
    exact hd
  refine hC η vs w _ _ ?_ (hc η0 φ0 w Ef0 w vs hs0 hd0)
  rintro e w' ⟨ce,h',η',φ',k0,hl,hpin,hcr,hs'⟩
  obtain⟨hown,k⟩:=hk ce h' k0
  let ηR:Nam:=fun j=>if j<h.length then η j else η' (h0.length+(j-h.length))
  have hηR:(fun i=>ηR (F i))=η':=funext fun i=>by
    by_cases hi:i<h0.length
    · obtain⟨j,e1,e2,e3⟩:=hsig i hi
      have e4:F i<h.length:=by show sig σ h.length i<_;rw[e2];exact e3
      show(if F i<h.length then η (F i)else _)=_
      rw[if_pos e4,hpin i hi,hη0 i hi]
    · have e4:F i=h.length+(i-h0.length):=hsig2 i (by omega)
      show(if F i<h.length then η (F i)else η' (h0.length+(F i-h.length)))=_
      rw[if_neg (by omega),e4]
      congr 1;omega
  have hle:η.le ηR:=fun j a e=>by
    obtain⟨o,ho⟩:=hs.dom j a e
    show(if j<h.length then η j else _)=_
    rw[if_pos (lt_of_get ho)];exact e
  -- which blocks of the great heap come from which of the small one
  have hlenp:(putH F h0 h' σ 0 h).length=h.length:=putH_length
  have hcase: ∀j o,(updH σ h h0 h')[j]?=some (some o)→
      (∃i o',(h0.length≤i∨rwAt h0 i=true)∧i<h'.length∧h'[i]?=some (some o')∧o=renO F o'∧F i=j)∨(j<h.length∧h[j]?=some (some o)∧ ∀i,i<h0.length→rwAt h0 i=true→F i≠j):=fun j o e=>by
    unfold updH at e
    by_cases hj:j<h.length
    · rw[List.getElem?_append_left (by rw[putH_length];exact hj)]at e
      by_cases hx: ∃i,i<h0.length∧rwAt h0 i=true∧F i=j
      · obtain⟨i,hi,hr,hFi⟩:=hx
        obtain⟨j',e1,e2,e3⟩:=hsig i hi
        have e4:j'=j:=by rw[←e2];exact hFi
        subst e4
        rw[putH_at hj e1 (by simpa using hr) (fun k' hne hk'=>hap.ne (Ne.symm hne) e1 hk' hr rfl)]at e
        simp only[Nat.zero_add]at e
        rw[Option.some.injEq,Option.bind_eq_some_iff]at e
        obtain⟨o1,h1,h2⟩:=e
        simp only[Option.map_eq_some_iff]at h2
        obtain⟨o2,rfl,rfl⟩:=h2
        exact .inl ⟨i,o2,.inr hr,by omega,h1,rfl,hFi⟩
      · rw[putH_other (fun k hk=>?_)]at e
        · exact .inr ⟨hj,e,fun i hi hr hFi=>hx ⟨i,hi,hr,hFi⟩⟩
        · rw[Nat.zero_add]
          cases hr:rwAt h0 k with
          |false=>rfl
          |true=>
            have hkl:k<h0.length:=by
              have:k<σ.length:=by
                rcases Nat.lt_or_ge k σ.length with hl|hl
                · exact hl
                · rw[List.getElem?_eq_none hl]at hk;cases hk
              omega
            obtain⟨j',e1,e2,e3⟩:=hsig k hkl
            rw[hk]at e1;cases e1
            exact(hx ⟨k,hkl,hr,e2⟩).elim
    · rw[List.getElem?_append_right (by rw[putH_length];omega),putH_length]at e
      simp only[newH,List.getElem?_map,List.getElem?_drop,Option.map_eq_some_iff]at e
      obtain⟨o1,h1,o2,rfl,rfl⟩:=e
      refine .inl ⟨h0.length+(j-h.length),o2,.inl (by omega),lt_of_get h1,h1,rfl,?_⟩
      show sig σ h.length _=_
      rw[hsig2 _ (by omega)];omega
  have hηj: ∀i,ηR (F i)=η' i:=fun i=>congrFun hηR i
  have hφ: ∃φR:Feet,(∀i,i<h'.length→(h0.length≤i∨rwAt h0 i=true)→φR (F i)=φ' i)∧ ∀j,j<h.length→(∀i,i<h0.length→rwAt h0 i=true→F i≠j)→φR j=φ j:=by
    classical
    refine⟨fun j=>if hx: ∃i,i<h'.length∧(h0.length≤i∨rwAt h0 i=true)∧F i=j then φ' hx.choose else φ j,fun i hi hr=>?_,fun j hj hn=>?_⟩
    · have hx: ∃i',i'<h'.length∧(h0.length≤i'∨rwAt h0 i'=true)∧F i'=F i:=⟨i,hi,hr,rfl⟩
      have e1:hx.choose=i:=by
        obtain⟨p1,p2,p3⟩:=hx.choose_spec
        generalize hx.choose=i' at p1 p2 p3⊢
        by_cases hi0:i<h0.length
        · by_cases hi0':i'<h0.length
          · rcases Nat.decEq i' i with hne|he
            · have hr' : rwAt h0 i' = true := by rcases p2 with p2 | p2; · omega
                                                 · exact p2
              exact(hinj i' i hi0' hi0 hne hr' p3).elim
            · exact he
          · obtain⟨j,e1,e2,e3⟩:=hsig i hi0
            have e4:F i'=h.length+(i'-h0.length):=hsig2 i' (by omega)
            have e5:F i=j:=e2
            omega
        · by_cases hi0':i'<h0.length
          · obtain⟨j,e1,e2,e3⟩:=hsig i' hi0'
            have e4:F i=h.length+(i-h0.length):=hsig2 i (by omega)
            have e5:F i'=j:=e2
            omega
          · have e4:F i=h.length+(i-h0.length):=hsig2 i (by omega)
            have e5:F i'=h.length+(i'-h0.length):=hsig2 i' (by omega)
            omega
      simp only[dif_pos hx,e1]
    · have hx: ¬ ∃i',i'<h'.length∧(h0.length≤i'∨rwAt h0 i'=true)∧F i'=j:=by
        rintro⟨i',p1,p2,p3⟩
        by_cases hi0':i'<h0.length
        · exact hn i' hi0' (by rcases p2 with p2|p2;· omega
                               · exact p2) p3
        · have e5:F i'=h.length+(i'-h0.length):=hsig2 i' (by omega)
          omega
      simp only[dif_neg hx]
  obtain⟨φR,hφ1,hφ2⟩:=hφ
  have hnot: ∀j o a b,j<h.length→h[j]?=some (some o)→η j=some a→(∀i,i<h0.length→rwAt h0 i=true→F i≠j)→o.foot a (φ j) b→ ¬Ef0 b:=by
    rintro j o a b hj ho ea hn hb ⟨i,o0,a',e1,e2,e3,e4⟩
    obtain⟨hi,o1,e5,e6⟩:=hent i o0 e1
    have hr:rwAt h0 i=true:=by simp[rwAt,e1,e2]
    exact hs.sep (F i) j o1 o a' a b (hn i hi hr) e5 ho e3 ea (e6.rw e2) (e6.foot _ _ b e4) hb
  have hRlen:(updH σ h h0 h').length=h.length+(h'.length-h0.length):=by
    simp[updH,putH_length,newH]
  have hRη: ∀j,j<h.length→ηR j=η j:=fun j hj=>if_pos hj
  refine⟨_,updH σ h h0 h',ηR,φR,k,by omega,fun j hj=>hRη j hj,?_,?_⟩
  · cases ce with
    |ret v=>
      obtain⟨u,hu,rfl⟩:=hcr
      refine⟨u,?_,rfl⟩
      rw[den_ren]
      have:(fun i=>ηR (sig σ h.length i))=η':=hηR
      rw[this];exact hu
    |panic v=>
      obtain⟨u,hu,rfl⟩:=hcr
      refine⟨u,?_,rfl⟩
      rw[den_ren]
      have:(fun i=>ηR (sig σ h.length i))=η':=hηR
      rw[this];exact hu
  · exact
    { size := Nat.le_trans hs.size hs'.size
      env:=hs.env.trans hs'.env
      keep:=fun b hb he=>by
        rw [hs'.keep b (Nat.lt_of_lt_of_le hb hs.size) fun hE => ?_]
        · exact hs.keep b hb he
        · rcases hEf b hE with h1|h1
          · exact he h1
          · omega
      dom:=fun j a e=>by
        by_cases hj:j<h.length
        · rw[hRη j hj]at e
          obtain⟨o,ho⟩:=hs.dom j a e
          by_cases hx: ∃i,i<h0.length∧rwAt h0 i=true∧F i=j
          · obtain⟨i,hi,hr,hFi⟩:=hx
            obtain⟨j',e1,e2,e3⟩:=hsig i hi
            have e4:j'=j:=by rw[←e2];exact hFi
            subst e4
            have e5:η' i=some a:=by rw[←hηj i,hFi,hRη _ hj];exact e
            obtain⟨o',ho'⟩:=hs'.dom i a e5
            refine⟨renO F o',?_⟩
            unfold updH
            rw[List.getElem?_append_left (by rw[putH_length];exact hj)]
            rw[putH_at hj e1 (by simpa using hr) (fun k' hne hk'=>hap.ne (Ne.symm hne) e1 hk' hr rfl)]
            simp[ho',F]
          · refine⟨o,?_⟩
            unfold updH
            rw[List.getElem?_append_left (by rw[putH_length];exact hj)]
            rw[putH_other (fun k hk=>?_)]
            · exact ho
            · rw[Nat.zero_add]
              cases hr:rwAt h0 k with
              |false=>rfl
              |true=>
                have hkl:k<h0.length:=by
                  have:k<σ.length:=by
                    rcases Nat.lt_or_ge k σ.length with hl|hl
                    · exact hl
                    · rw[List.getElem?_eq_none hl]at hk;cases hk
                  omega
                obtain⟨j',e1,e2,e3⟩:=hsig k hkl
                rw[hk]at e1;cases e1
                exact(hx ⟨k,hkl,hr,e2⟩).elim
        · have e1:ηR j=η' (h0.length+(j-h.length)):=if_neg hj
          rw[e1]at e
          obtain⟨o',ho'⟩:=hs'.dom _ a e
          refine⟨renO F o',?_⟩
          unfold updH
          rw[List.getElem?_append_right (by rw[putH_length];omega),putH_length]
          simp[newH,ho',F]
      named:=fun j o e=>by
        rcases hcase j o e with⟨i,o',hr,hi,ho',rfl,rfl⟩|⟨hj,ho,hn⟩
        · rw[hηj i];exact hs'.named i o' ho'
        · rw[hRη j hj];exact hs.named j o ho
      holds:=fun j o a e ea=>by
        rcases hcase j o e with⟨i,o',hr,hi,ho',rfl,rfl⟩|⟨hj,ho,hn⟩
        · rw[hηj i]at ea
          rw[hφ1 i hi hr,renO_holds hηR]
          exact hs'.holds i o' a ho' ea
        · rw[hRη j hj]at ea
          rw[hφ2 j hj hn]
          refine SObj.holds_mono hle (SObj.holds_local (hs.holds j o a ho ea) fun b hb => ?_)
          exact hs'.keep b (hs.bnd j o a b ho ea hb) (hnot j o a b hj ho ea hn hb)
      bnd:=fun j o a b e ea hb=>by
        rcases hcase j o e with⟨i,o',hr,hi,ho',rfl,rfl⟩|⟨hj,ho,hn⟩
        · rw[hηj i]at ea
          rw[hφ1 i hi hr,renO_foot]at hb
          exact hs'.bnd i o' a b ho' ea hb
        · rw[hRη j hj]at ea
          rw[hφ2 j hj hn]at hb
          exact Nat.lt_of_lt_of_le (hs.bnd j o a b ho ea hb) hs'.size
      own:=fun j o a b e ea er hb=>by
        rcases hcase j o e with⟨i,o',hr,hi,ho',rfl,rfl⟩|⟨hj,ho,hn⟩
        · rw[hηj i]at ea
          rw[hφ1 i hi hr,renO_foot]at hb
          rw[renO_rw]at er
          rcases hs'.own i o' a b ho' ea er hb with h1|h1
          · exact hEf b h1
          · exact .inr (Nat.le_trans hs.size h1)
        · rw[hRη j hj]at ea
          rw[hφ2 j hj hn]at hb
          exact hs.own j o a b ho ea er hb
      sep:=fun j k oj ok aj ak b hjk ej ek eaj eak er hb hbk=>by
        rcases hcase j oj ej with⟨i,o',hr,hi,ho',rfl,rfl⟩|⟨hj,ho,hn⟩
        · rw[hηj i]at eaj
          rw[hφ1 i hi hr,renO_foot]at hb
          rw[renO_rw]at er
          rcases hcase k ok ek with⟨i2,o2,hr2,hi2,ho2,rfl,rfl⟩|⟨hk2,ho2,hn2⟩
          · rw[hηj i2]at eak
            rw[hφ1 i2 hi2 hr2,renO_foot]at hbk
            exact hs'.sep i i2 o' o2 aj ak b (fun e=>hjk (by rw[e])) ho' ho2 eaj eak er hb hbk
          · rw[hRη k hk2]at eak
            rw[hφ2 k hk2 hn2]at hbk
            rcases hs'.own i o' aj b ho' eaj er hb with h1|h1
            · exact hnot k ok ak b hk2 ho2 eak hn2 hbk h1
            · have:=hs.bnd k ok ak b ho2 eak hbk;omega
        · rw[hRη j hj]at eaj
          rw[hφ2 j hj hn]at hb
          rcases hcase k ok ek with⟨i2,o2,hr2,hi2,ho2,rfl,rfl⟩|⟨hk2,ho2,hn2⟩
          · rw[hηj i2]at eak
            rw[hφ1 i2 hi2 hr2,renO_foot]at hbk
            rcases hown i2 o2 hr2 ho2 with hrw2|rfl
            · rcases hs'.own i2 o2 ak b ho2 eak hrw2 hbk with h1|h1
              · exact hnot j oj aj b hj ho eaj hn hb h1
              · have:=hs.bnd j oj aj b ho eaj hb;omega
            · exact hbk
          · rw[hRη k hk2]at eak
            rw[hφ2 k hk2 hn2]at hbk
            exact hs.sep j k oj ok aj ak b hjk ho ho2 eaj eak er hb hbk}
theorem CallP.frame{P:Program}{f:FuncId}{a0 args:List SV}{h0 h:SHeap}{K0 K:CE→SHeap→Prop}(hc:CallP P f a0 h0 K0)(σ:List Nat)
  (hf:Fits (sig σ h.length) h σ h0) (hap:Apart σ h0) (ha:renL (sig σ h.length) a0=args)
  (hk: ∀ce h',K0 ce h'→Own h0 h'∧K (renC (sig σ h.length) ce) (updH σ h h0 h')):CallP P f args h K:=
 CallG.frame (C0:=fun _ vs w R=>Calls P f vs.toArray w R) (C:=fun _ vs w R=>Calls P f vs.toArray w R) hc σ hf hap ha (fun _ _ _ _ _ hm hx=>hx.mono hm) hk
theorem YieldP.frame{P:Program}{i i0:Nat}{a0 args:List SV}{h0 h:SHeap}{K0 K:CE→SHeap→Prop}(hc:YieldP P i0 a0 h0 K0)(σ:List Nat)
  (hf:Fits (sig σ h.length) h σ h0) (hap:Apart σ h0) (ha:renL (sig σ h.length) a0=args) (hi:sig σ h.length i0=i)
  (hk: ∀ce h',K0 ce h'→Own h0 h'∧K (renC (sig σ h.length) ce) (updH σ h h0 h')):YieldP P i args h K:=
 CallG.frame (C0:=yieldC P i0) (C:=yieldC P i) hc σ hf hap ha (fun η vs w R R' hm hx=>by
  obtain⟨a,f,tmps,assign,body,e1,e2,e3⟩:=hx
  have e1':η i=some a:=by
   rw[←hi]
   by_cases hl:i0<h0.length
   ·simpa[hl]using e1
   ·simp[hl]at e1
  exact⟨a,f,tmps,assign,body,e1',e2,e3.mono hm⟩) hk
end Go.Sy
