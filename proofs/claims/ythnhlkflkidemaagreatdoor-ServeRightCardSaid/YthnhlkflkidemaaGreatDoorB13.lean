/-
  Parts: Sy22, Sy23, Sy24, Sy25, Sy26.
-/
import Derived.Test.YthnhlkflkidemaaGreatDoorB12
import Derived.RangeFuncRecord
set_option linter.unusedVariables false
set_option linter.unusedSimpArgs false
/-
 Sy22: ranges over functions: the statement, one round, and how a function that has such a loop leaves. No program is named.
-/
namespace Go.Sy
def setPs:List (Option SV)→List Nat→List SV→List (Option SV)
 |T,t::ts,a::as=>setPs (T.set t (some a)) ts as
 |T,_,_=>T
def toTm:List (Option SV)→Tm
 |[]=>[]
 |none::T=>none::toTm T
 |some v::T=>some (none,v)::toTm T
def offTm:Tm→List (Option SV)
 |[]=>[]
 |some (none,v)::T=>some v::offTm T
 |_::T=>none::offTm T
theorem toTm_rel{η:Nam}{T:List (Option SV)}{tmps:Array Value}(h:relT η T tmps):TRel η (toTm T) tmps:=by
 have key: ∀(T:List (Option SV)),(toTm T).length=T.length∧ ∀(k:Nat) (g:Option Bool) (sv:SV),(toTm T)[k]?=some (some (g,sv))→g=none∧T[k]?=some (some sv):=by
  intro T;induction T with
  |nil=>exact⟨rfl,fun k g sv h=>by simp[toTm]at h⟩
  |cons x T ih=>
   cases x with
   |none=>
    refine⟨by simp[toTm,ih.1],fun k g sv h=>?_⟩;cases k with
    |zero=>simp[toTm]at h
    |succ k=>simpa[toTm]using ih.2 k g sv (by simpa[toTm]using h)
   |some v=>
    refine⟨by simp[toTm,ih.1],fun k g sv h=>?_⟩;cases k with
    |zero=>simp[toTm]at h;obtain⟨rfl,rfl⟩:=h;exact⟨rfl,rfl⟩
    |succ k=>simpa[toTm]using ih.2 k g sv (by simpa[toTm]using h)
 refine⟨by rw[h.1,(key T).1],fun k g sv hk=>?_⟩;obtain⟨rfl,h2⟩:=(key T).2 k g sv hk;exact⟨fun _=>h.2 k sv h2,fun hf=>by cases hf⟩
theorem offTm_rel{η:Nam}{T:Tm}{tmps:Array Value}(h:TRel η T tmps):relT η (offTm T) tmps:=by
 have key: ∀(T:Tm),(offTm T).length=T.length∧ ∀(k:Nat) (sv:SV),(offTm T)[k]?=some (some sv)→T[k]?=some (some (none,sv)):=by
  intro T;induction T with
  |nil=>exact⟨rfl,fun k sv h=>by simp[offTm]at h⟩
  |cons x T ih=>
   match x with
   |none=>
    refine⟨by simp[offTm,ih.1],fun k sv h=>?_⟩;cases k with
    |zero=>simp[offTm]at h
    |succ k=>simpa[offTm]using ih.2 k sv (by simpa[offTm]using h)
   |some (none,v)=>
    refine⟨by simp[offTm,ih.1],fun k sv h=>?_⟩;cases k with
    |zero=>simp[offTm]at h;subst h;simp
    |succ k=>simpa[offTm]using ih.2 k sv (by simpa[offTm]using h)
   |some (some g,v)=>
    refine⟨by simp[offTm,ih.1],fun k sv h=>?_⟩;cases k with
    |zero=>simp[offTm]at h
    |succ k=>simpa[offTm]using ih.2 k sv (by simpa[offTm]using h)
 refine⟨by rw[h.1,(key T).1],fun k sv hk=>?_⟩;exact(h.2 k none sv ((key T).2 k sv hk)).1 rfl
theorem relT.setPs{η:Nam} : ∀{T:List (Option SV)} {ps:List Nat} {args:List SV} {vs:List Value} {tmps:Array Value},relT η T tmps→denL η args=some vs→
  relT η (Go.Sy.setPs T ps args) ((ps.zip vs).foldl (fun tmps (t,a)=>tmps.setIfInBounds t a) tmps)
 |T,[],args,vs,tmps,h,_=>by simpa[Go.Sy.setPs]using h
 |T,p::ps,[],vs,tmps,h,hd=>by simp only[denL,Option.some.injEq]at hd;subst hd;simpa[Go.Sy.setPs]using h
 |T,p::ps,x::xs,vs,tmps,h,hd=>by
  obtain⟨a,as,ha,has,rfl⟩:=denL_cons.1 hd;simp only[Go.Sy.setPs,List.zip_cons_cons,List.foldl_cons];refine relT.setPs ⟨by simp[h.1],fun k sv hk=>?_⟩ has;rw[List.getElem?_set]at hk;simp only[Array.getElem?_setIfInBounds];split at hk
  ·rename_i hpk;subst hpk;split at hk
   ·rename_i hl;simp only[Option.some.injEq]at hk;subst hk;exact⟨a,ha,by simp[h.1,hl]⟩
   ·cases hk
  ·rename_i hpk;rw[if_neg hpk];exact h.2 k sv hk
theorem Sat.turn{η:Nam}{φ:Feet}{h:SHeap}{w0:World}{Ef:Nat→Prop}{w:World}{i:Nat}{T:List (Option SV)}{ps:Array Nat}{a b:Code}{st:LoopState}{p:Option Code}{ad:Nat×Nat}(s:Sat η φ h w0 Ef w)
  (hi:h[i]?=some (some (.loopr T ps a b st p))) (ha:η i=some ad): ∃r:Loop,w.heap[ad.1]?=some (.loop r)∧r.state=st∧r.pending=p∧
   ∀st' p',Sat η φ (h.set i (some (.loopr T ps a b st' p'))) w0 Ef (w.putObj ad.1 (.loop {r with state:=st',pending:=p'})):=by
 obtain⟨fn,d,tmps,hT,hw⟩:=s.holds i _ ad hi ha;refine⟨_,hw,rfl,rfl,fun st' p'=>?_⟩;have hlt:ad.1<w.heap.size:=by
  rcases Nat.lt_or_ge ad.1 w.heap.size with h|h
  ·exact h
  ·rw[Array.getElem?_eq_none h]at hw;cases hw
 refine s.upd (o':= .loopr T ps a b st' p') hi ha rfl (fun b hb=>hb) (by simp) (fun b hb=>World.putObj_heap_other (fun e=>hb e.symm)) ⟨fn,d,tmps,hT,?_⟩;rw[World.putObj_heap_same hlt]
def rndE(i:Nat)(K:CE→SHeap→Prop)(j:Option Code)(s:St):Prop:=
 match s.H[i]? with
 |some (some (.loopr T ps a b _ _))=>match j with
  | none => fcL (s.H.set i (some (.loopr T ps a b .ready none))) fun H => K (.ret (.bool true)) H
  | some c => fcL (s.H.set i (some (.loopr T ps a b .done (some c)))) fun H => K (.ret (.bool false)) H
 |_=>False
def rndK(i:Nat)(K:CE→SHeap→Prop):KS:=fun se s ob=>match se with
 | .normal=>fcP ob fun ob=>AllP ob∧rndE i K none s
 | .ret=>fcP ob fun ob=>AllP ob∧rndE i K (some .ret) s
 | .exit id=>fcP ob fun ob=>AllP ob∧rndE i K (some (.exit id)) s
 |_=>False
theorem rndK_good(i:Nat)(K:CE→SHeap→Prop):Good (rndK i K):=by
 intro se s ob h;unfold rndK at h;split at h
 ·rw[fcP_eq]at h;exact h.1
 ·rw[fcP_eq]at h;exact h.1
 ·rw[fcP_eq]at h;exact h.1
 ·exact h.elim
def begK(E:Env)(P:Program)(l n i:Nat)(body:Code)(K:CE→SHeap→Prop):KS:=fun se s ob=>match se with
 | .normal=>match s.H[i]? with
  | some (some (.loopr T ps a b .ready p)) => fcL (s.H.set i (some (.loopr T ps a b .busy p))) fun H => X E P (some l) n body ⟨s.T, H, s.D⟩ ob (rndK i K)
  |_=>False
 |_=>False
theorem begK_good(E:Env)(P:Program)(l n i:Nat)(body:Code)(K:CE→SHeap→Prop):Good (begK E P l n i body K):=by
 intro se s ob h;unfold begK at h;split at h
 ·split at h
  ·rw[fcL_eq]at h;exact X_owed body _ _ _ (rndK_good i K) h
  ·exact h.elim
 ·exact h.elim
theorem roundP{E:Env}{P:Program}(hE:E.ok P){i:Nat}{args:List SV}{h:SHeap}{K:CE→SHeap→Prop}{T:List (Option SV)}{ps:Array Nat}{assign body:Code}
  (hi:h[i]?=some (some (.loopr T ps assign body .ready none))) (hl:args.length=ps.size)
  (hx: ∀l,X E P (some l) h.length assign ⟨toTm (setPs T ps.toList args),h,[]⟩ [] (begK E P l h.length i body K)):YieldP P i args h K:=by
 intro η φ w0 Ef w vs hs hd
 obtain⟨ad,had⟩:=hs.named i _ hi
 obtain⟨fn,d,tmps,hT,hw⟩:=hs.holds i _ ad hi had
 have hsz:vs.toArray.size=ps.size:=by simp[denL_length hd,hl]
 have hlt:=lt_of_get hi
 have run:=run_yield (P:=P) hw (args:=vs.toArray) hsz
 refine⟨ad,_,_,_,_,had,run,?_⟩
 refine roundIn_of_wpIn (F:=Fw none) (n:=0) trivial ?_
 have hT':=hT.setPs (ps:=ps.toList) hd
 have e0:(ps.zip vs.toArray).foldl (fun tmps (t,a)=>tmps.setIfInBounds t a) tmps=(ps.toList.zip vs).foldl (fun tmps (t,a)=>tmps.setIfInBounds t a) tmps:=by
  rw[←Array.foldl_toList]
  simp
 have c1:=X_ok hE assign _ _ _ (fun se s=> ∃ob,begK E P ad.1 h.length i body K se s ob) (begK_good E P ad.1 h.length i body K) (fun se s ob hk=>⟨ob,hk⟩) (hx ad.1) η η φ w0 Ef w
  {tmps:=(ps.toList.zip vs).foldl (fun tmps (t,a)=>tmps.setIfInBounds t a) tmps,defers:=[]} (Pin.refl _ _) (Nat.le_refl _) hs (toTm_rel hT') rfl
 rw[←e0]at c1
 refine wpIn_mono c1 ?_
 rintro e a1 w1 ⟨se,s1,η1,φ1,⟨ob,k⟩,p1,p2,pe,p3,p4,p5⟩
 unfold begK at k
 split at k
 ·have pe:e= .normal:=pe
  subst pe
  split at k
  ·rename_i T1 ps1 b1 b2 p hH
   rw[fcL_eq]at k
   have had1:η1 i=some ad:=by rw[p1 i hlt];exact had
   obtain⟨r,hr,hst,hpe,hturn⟩:=p3.turn hH had1
   refine⟨_,run_beginRound hr hst,?_⟩
   subst hpe
   have s2:=hturn .busy r.pending
   have c2:=X_ok hE body _ _ _ (fun se s=> ∃ob,rndK i K se s ob) (rndK_good i K) (fun se s ob hk=>⟨ob,hk⟩) k η η1 φ1 w0 Ef _ a1 p1 (by simpa using p2) s2 p4 p5
   refine wpIn_mono c2 ?_
   rintro e a2 w2 ⟨se,s2,η2,φ2,⟨ob,k⟩,q1,q2,qe,q3,q4,q5⟩
   have had2:η2 i=some ad:=by rw[q1 i hlt];exact had
   have fin: ∀(j:Option Code),rndE i K j s2→ ∃v w',(Instr.endRound ad.1 j).run P w2= .ok v w'∧ ∃ce h' η' φ',K ce h'∧h.length≤h'.length∧Pin h.length η η'∧cRel η' ce (.returned v)∧Sat η' φ' h' w0 Ef w':=by
    intro j hj
    unfold rndE at hj
    split at hj
    ·rename_i T2 ps2 b3 b4 st2 p2' hH2
     obtain⟨r2,hr2,_,_,hturn2⟩:=q3.turn hH2 had2
     refine⟨_,_,run_endRound j hr2,?_⟩
     cases j with
     |none=>
      simp only[fcL_eq]at hj
      exact⟨_,_,η2,φ2,hj,by simpa using q2,q1,⟨_,rfl,rfl⟩,by simpa using hturn2 .ready none⟩
     |some c=>
      simp only[fcL_eq]at hj
      exact⟨_,_,η2,φ2,hj,by simpa using q2,q1,⟨_,rfl,rfl⟩,by simpa using hturn2 .done (some c)⟩
    ·exact hj.elim
   unfold rndK at k
   split at k
   ·have qe:e= .normal:=qe
    subst qe
    rw[fcP_eq]at k
    exact fin none k.2
   ·have qe:e= .ret:=qe
    subst qe
    rw[fcP_eq]at k
    exact fin (some .ret) k.2
   ·rename_i id
    have qe:e= .exit id:=qe
    subst qe
    rw[fcP_eq]at k
    exact fin (some (.exit id)) k.2
   ·exact k.elim
  ·exact k.elim
 ·exact k.elim
def isDfr(o:Obj):Prop:=o= .deferred (some [])
theorem rangeP{E:Env}{P:Program}(hE:E.ok P){n:Nat}{f:Operand}{ps:Array Nat}{assign body:Code}{s:St}{K:SE→St→Prop}{g:Nat}{first cap:List SV}
  (hf : ldG s.T s.H f = some (none, .fn (.func g) first cap)) (hg : E.fn g = true)
  (hc : CallP P g (first ++ (.yld (s.H.length + 1) :: cap)) (s.H ++ [some (.obj isDfr), some (.loopr (offTm s.T) ps assign body .ready none)]) fun ce H => match ce with
   | .panic v=>K (.panic v) ⟨s.T,H,.yld s.H.length::s.D⟩
   | .ret _=>match H[s.H.length+1]? with
    | some (some (.loopr T ps a b st p)) => st ≠ .busy ∧ fcL (H.set (s.H.length + 1) (some (.loopr T ps a b .exhausted p))) fun H => match p with
     |none=>K .normal ⟨s.T,H,.yld s.H.length::s.D⟩
     |some c=>CodeP P none n c ⟨s.T,H,.yld s.H.length::s.D⟩ K
    |_=>False):CodeP P none n (.rangeFunc f ps assign body) s K:=by
 intro η0 η φ w0 Ef w a h1 h2 h3 h4 h5
 have hdf:=ldG_ok h3 h4 hf rfl
 simp only[den,Option.bind_eq_some_iff,Option.map_eq_some_iff]at hdf
 obtain⟨fs,hfs,cs,hcs,hev⟩:=hdf
 refine wpIn_rangeFunc fun fn _=>?_
 let W1:=w.alloc (.deferred (some []))
 let L:Loop:={state:= .ready,pending:=none,fn,tmps:=a.tmps,params:=ps,assign,body,defers:=w.heap.size}
 let W2:=W1.alloc (.loop L)
 let η1:=η.put s.H.length (w.heap.size,0)
 let η2:=η1.put (s.H.length+1) (w.heap.size+1,0)
 have r0:=h3.room 2
 have n0:(s.H++List.replicate 2 none)[s.H.length]?=some none:=by simp
 have s1:Sat η1 φ ((s.H++List.replicate 2 none).set s.H.length (some (.obj isDfr))) w0 Ef W1:=r0.new (o:= .obj isDfr) (ob:= .deferred (some [])) n0 rfl (fun b hb=>hb.symm) ⟨.deferred (some []),by simp,rfl⟩
 have n1:((s.H++List.replicate 2 none).set s.H.length (some (.obj isDfr)))[s.H.length+1]?=some none:=by
  rw[List.getElem?_set_ne (by omega)]
  simp
 have hsz1:W1.heap.size=w.heap.size+1:=World.size_alloc w _
 have hnone0:η s.H.length=none:=r0.free fun o=>by rw[n0];simp
 have hle1:η.le η1:=Nam.le_put hnone0
 have hnone1:η1 (s.H.length+1)=none:=s1.free fun o=>by rw[n1];simp
 have hle2:η1.le η2:=Nam.le_put hnone1
 have hle:η.le η2:=hle1.trans hle2
 have hoth2: ∀j,j≠s.H.length+1→η2 j=η1 j:=fun j hj=>Nam.put_other _ _ hj
 have hoth1: ∀j,j≠s.H.length→η1 j=η j:=fun j hj=>Nam.put_other _ _ hj
 have s2:Sat η2 φ (((s.H++List.replicate 2 none).set s.H.length (some (.obj isDfr))).set (s.H.length+1) (some (.loopr (offTm s.T) ps assign body .ready none))) w0 Ef W2:=by
  have:=s1.new (o:= .loopr (offTm s.T) ps assign body .ready none) (ob:= .loop L) n1 rfl (fun b hb=>hb.symm) ⟨fn,w.heap.size,a.tmps,?_,by simp[L]⟩
  ·rw[hsz1]at this
   exact this
  ·rw[hsz1]
   exact(offTm_rel h4).mono hle
 have eH:((s.H++List.replicate 2 none).set s.H.length (some (.obj isDfr))).set (s.H.length+1) (some (.loopr (offTm s.T) ps assign body .ready none))=s.H++[some (.obj isDfr),some (.loopr (offTm s.T) ps assign body .ready none)]:=by
  simp[List.replicate]
 rw[eH]at s2
 have e2:η2 (s.H.length+1)=some (w.heap.size+1,0):=Nam.put_same _ _ _
 have e1:η2 s.H.length=some (w.heap.size,0):=(hoth2 _ (by omega)).trans (Nam.put_same _ _ _)
 have hpin:Pin s.H.length η η2:=fun i hi=>(hoth2 i (by omega)).trans (hoth1 i (by omega))
 have hd:denL η2 (first++(.yld (s.H.length+1)::cap))=some (fs++(.func (.yield (w.heap.size+1)) #[] #[]::cs)):=
  denL_append (denL_mono hle _ _ hfs) (denL_cons.2 ⟨_,_,by simp[den,e2],denL_mono hle _ _ hcs,rfl⟩)
 refine⟨w.heap.size+1,[{target:= .collected w.heap.size,args:= #[]}],W2,{target:= .fn (.func g) cs.toArray,args:=fs.toArray++ #[.func (.yield (w.heap.size+1)) #[] #[]]},W2,g,(fs++(.func (.yield (w.heap.size+1)) #[] #[]::cs)).toArray,W2,?_,?_,fun _ _=>trivial,?_,fun h=>by simp[Fw,Fence.wide]at h,?_⟩
 ·exact run_enterLoop_outer fn a.tmps ps assign body
 ·simp only[resolve,←hev,Deferred.ofValue]
  simp[Act.eval]
 ·simp only[invoke]
  rw[run_callFunc hE hg]
  simp
 ·refine callsIn_fw ((hc η2 φ w0 Ef W2 _ s2 hd).mono ?_)
  rintro e w3 ⟨ce,H,η3,φ3,k,hl,hp,hce,hs3⟩
  have hle3:=Nam.le_of_pin s2 hp
  have hT3:TRel η3 s.T a.tmps:=h4.mono (hle.trans hle3)
  have hl':s.H.length+2≤H.length:=by simpa using hl
  have hp0:Pin n η0 η3:=(h1.trans hpin h2).trans hp (by simp;omega)
  have m1:η3 s.H.length=some (w.heap.size,0):=hle3 _ _ e1
  have m2:η3 (s.H.length+1)=some (w.heap.size+1,0):=hle3 _ _ e2
  have hD3:DRel η3 (.yld s.H.length::s.D) ({target:= .collected w.heap.size,args:= #[]} ::a.defers):=by
   have:=h5.mono (hle.trans hle3)
   unfold DRel at this⊢
   rw[List.mapM_cons,this]
   simp[denD,m1]
  cases ce with
  |panic v=>
   obtain⟨u,hu,rfl⟩:=hce
   exact⟨_,_,η3,φ3,k,hp0,by simp;omega,⟨u,hu,rfl⟩,hs3,hT3,hD3⟩
  |ret v=>
   obtain⟨u,hu,rfl⟩:=hce
   simp only at k
   split at k
   ·rename_i T ps' b1 b2 st p hH
    obtain⟨hst,k⟩:=k
    rw[fcL_eq]at k
    obtain⟨r,hr,e3,e4,hturn⟩:=hs3.turn hH m2
    refine⟨r.pending,_,run_endLoop hr (by rw[e3];exact hst),?_⟩
    have hs4:=hturn .exhausted p
    rw[←e4]at hs4
    rw[e4]at hs4⊢
    cases p with
    |none=>exact⟨_,_,η3,φ3,k,hp0,by simp;omega,rfl,by simpa[←e4]using hs4,hT3,hD3⟩
    |some c=>exact k η0 η3 φ3 w0 Ef _ _ hp0 (by simp;omega) (by simpa[←e4]using hs4) hT3 hD3
   ·exact k.elim
theorem Sat.take{η:Nam}{φ:Feet}{h:SHeap}{w0:World}{Ef:Nat→Prop}{w:World}{m:Nat}{I:Obj→Prop}{ad:Nat×Nat}(s:Sat η φ h w0 Ef w)
  (hm:h[m]?=some (some (.obj I))) (hI: ∀o,I o→o= .deferred (some [])) (ha:η m=some ad):w.heap[ad.1]?=some (.deferred (some []))∧Sat η φ (h.set m (some .dead)) w0 Ef (w.putObj ad.1 (.deferred none)):=by
 obtain⟨o,hw,ho⟩:=s.holds m _ ad hm ha;have:=hI o ho;subst this;refine⟨hw,s.upd (o':= .dead) hm ha rfl (fun b hb=>hb.elim) (by simp) (fun b hb=>World.putObj_heap_other (fun e=>hb e.symm)) trivial⟩
def endM(E:Env)(rs:List ResultVar)(K:SV→SHeap→Prop)(s:St)(ob:List Prop):Prop:=
 match s.D with
 |[.yld m]=>match s.H[m]? with
  | some (some (.obj I)) => fcP ob fun ob => AllP ob ∧ (∀ o, I o → o = .deferred (some [])) ∧ fcL (s.H.set m (some .dead)) fun H => match resL E ⟨s.T, H, []⟩ rs with
   | some (vs, ob') => fcP ob' fun ob' => AllP ob' ∧ fcV (resOne vs) fun v => K v H
   |none=>False
  |_=>False
 |_=>False
def retKM(E:Env)(rs:List ResultVar)(K:SV→SHeap→Prop):KS:=fun se s ob=>match se with
 | .normal=>endM E rs K s ob
 | .ret=>endM E rs K s ob
 |_=>False
theorem retKM_good(E:Env)(rs:List ResultVar)(K:SV→SHeap→Prop):Good (retKM E rs K):=by
 have key: ∀s ob,endM E rs K s ob→AllP ob:=by
  intro s ob h;unfold endM at h;split at h
  ·split at h
   ·rw[fcP_eq]at h;exact h.1
   ·exact h.elim
  ·exact h.elim
 intro se s ob h;unfold retKM at h;split at h
 ·exact key _ _ h
 ·exact key _ _ h
 ·exact h.elim
theorem drel_mark{η:Nam}{m:Nat}{D:List SV}{ds:List Deferred}(h:DRel η (.yld m::D) ds): ∃ad ds',η m=some ad∧ds={target:= .collected ad.1,args:= #[]} ::ds'∧DRel η D ds':=by
 unfold DRel at h;simp only[List.mapM_cons,denD,Option.bind_eq_bind,Option.bind_eq_some_iff,Option.map_eq_some_iff,Option.pure_def,Option.some.injEq]at h;obtain⟨d,⟨ad,had,rfl⟩,ds',h2,rfl⟩:=h;exact⟨ad,ds',had,rfl,h2⟩
def LeavesQ(P:Program)(fn:Func)(tmps:Array Value)(R:Ending→World→Prop)(ds:List Deferred)(u:FrameMode)(w:World):Prop:=
 Leaves P fn tmps R ds u w∨ ∃r w' d ds',ds=d::ds'∧d.target= .collected r∧u≠ .run∧(Instr.takeDeferred r).run P w= .ok [] w'∧Leaves P fn tmps R ds' u w'
theorem leavesQ_steps{P:Program}{fn:Func}{tmps:Array Value}{R:Ending→World→Prop}(ds:List Deferred)(u:FrameMode)(w:World)(fr:Frame)
  (cs:List Frame) (hu:fr.mode=u) (hd:fr.defers=ds) (ht:fr.tmps=tmps) (hf:P.funcs[fr.fn]?=some fn) (hk:fr.kind= .normal) (h:LeavesQ P fn tmps R ds u w):
  ∃e w' fr',R e w'∧Comes P (lone fr cs w) (lone fr' cs w') e∧fr'.fn=fr.fn∧fr'.leaving P w' e:=by
 rcases h with h|⟨r,w',d,ds',hds,htar,hrun,htake,h⟩
 ·exact leaves_steps ds u w fr cs hu hd ht hf hk h
 ·rw[hds]at hd
  have h1:=step_collected (cs:=cs) (hu▸hrun) hd htar htake
  obtain⟨e',w'',fr',hR',hs',hfn',hl'⟩:=leaves_steps ds' u w' {fr with defers:=[]++ds'} cs hu rfl ht hf hk h
  exact⟨e',w'',fr',hR',Comes.of_steps (.one h1) hs',hfn',hl'⟩
def bodyPostQ(P:Program)(fn:Func)(R:Ending→World→Prop):Exit→Act→World→Prop
 | .normal,a,w| .ret,a,w=>LeavesQ P fn a.tmps R a.defers .returning w
 | .panic chain,a,w=>LeavesQ P fn a.tmps R a.defers (.panicking chain) w
 | .outgrown,_,w=>R .outgrown w
 |_,_,_=>False
theorem calls_of_wpQ{P:Program}{f:FuncId}{fn:Func}{c:Code}{args:Array Value}{w:World}{R:Ending→World→Prop}
  (hf:P.funcs[f]?=some fn) (hb:fn.body=some c)
  (h:c.wp P (bodyPostQ P fn R) {tmps:=args++Array.replicate (fn.ntmps-args.size) undef,defers:=[]} w):Calls P f args w R:=by
 intro cs
 let b:Frame:={(default:Frame)with fn:=f,kind:= .normal}
 have henter:Frame.enter P f args .normal=
   b.at {tmps:=args++Array.replicate (fn.ntmps-args.size) undef,defers:=[]} [.code c]:=by
  simp[Frame.enter,Frame.at,hf,hb,b]
 obtain⟨e,a',w',hq,harr⟩:=h b [] cs
 rw[←henter]at harr
 cases e with
 |normal=>
  obtain⟨e',w'',fr',hR,hs,hfn,hl⟩:=leavesQ_steps a'.defers .returning w' {b.at a' []with mode:= .returning} cs rfl rfl rfl hf rfl hq
  exact⟨e',w'',fr',hR,Comes.of_steps (Steps.trans harr (.one step_end)) hs,hfn,hl⟩
 |ret=>
  obtain⟨todo,hs₀⟩:=harr
  obtain⟨e',w'',fr',hR,hs,hfn,hl⟩:=leavesQ_steps a'.defers .returning w' {b.at a' todo with mode:= .returning} cs rfl rfl rfl hf rfl hq
  exact⟨e',w'',fr',hR,Comes.of_steps hs₀ hs,hfn,hl⟩
 |panic chain=>
  obtain⟨todo,hs₀⟩:=harr
  obtain⟨e',w'',fr',hR,hs,hfn,hl⟩:=leavesQ_steps a'.defers (.panicking chain) w' {b.at a' todo with mode:= .panicking chain} cs rfl rfl rfl hf rfl hq
  exact⟨e',w'',fr',hR,Comes.of_steps hs₀ hs,hfn,hl⟩
 |exit id=>exact hq.elim
 |goto l=>exact hq.elim
 |outgrown=>exact⟨.outgrown,w',b,hq,harr.resolve_left (by simp[b]),rfl,trivial⟩
theorem callM{E:Env}{P:Program}(hE:E.ok P){f:Nat}{fn:Func}{c:Code}{args:List SV}{h:SHeap}{K:CE→SHeap→Prop}(hf:P.funcs[f]?=some fn)(hb:fn.body=some c)
  (hx:X E P none h.length c ⟨initT args fn.ntmps,h,[]⟩ [] (retKM E fn.results.toList fun v h1=> ∃ce' h2,K ce' h2∧EntC h.length (.ret v) h1 ce' h2)):CallP P f args h K:=by
 refine CallP.ent ?_;intro η φ w0 Ef w vs hs hd;let KM:=retKM E fn.results.toList fun v h1=> ∃ce' h2,K ce' h2∧EntC h.length (.ret v) h1 ce' h2
 have hc:=X_ok hE c _ _ _ (fun se s=> ∃ob,KM se s ob) (retKM_good E fn.results.toList _) (fun se s ob hk=>⟨ob,hk⟩) hx η η φ w0 Ef w {tmps:=vs.toArray++Array.replicate (fn.ntmps-vs.toArray.size) undef,defers:=[]} (Pin.refl _ _) (Nat.le_refl _) hs (initT_ok hd _) rfl;refine calls_of_wpQ hf hb (wp_mono (wpIn_wide.1 hc) ?_);rintro e a w' ⟨se,s,η',φ',⟨ob,k⟩,p1,p2,pe,p3,p4,p5⟩;have main:endM E fn.results.toList (fun v h1=> ∃ce' h2,K ce' h2∧EntC h.length (.ret v) h1 ce' h2) s ob→
   LeavesQ P fn a.tmps (fun e w'=> ∃ce h1 η1 φ1,(∃ce' h2,K ce' h2∧EntC h.length ce h1 ce' h2)∧h.length≤h1.length∧Pin h.length η η1∧cRel η1 ce e∧Sat η1 φ1 h1 w0 Ef w') a.defers .returning w':=by
  intro hk;unfold endM at hk;split at hk
  ·rename_i m hD;split at hk
   ·rename_i I hm;rw[fcP_eq,fcL_eq]at hk;obtain⟨_,hI,hk⟩:=hk;rw[hD]at p5;obtain⟨ad,ds',had,hds,hds'⟩:=drel_mark p5;have hnil:ds'=[]:=by simpa[DRel]using hds'.symm
    subst hnil;obtain⟨hw,hs'⟩:=p3.take hm hI had;rw[hds];refine .inr ⟨ad.1,_,_,_,rfl,rfl,by simp,run_takeDeferred hw,?_⟩;split at hk
    ·rename_i us ob' hres;rw[fcP_eq,fcV_eq]at hk;obtain⟨u,h1,h2⟩:=run_results (P:=P) (s:=⟨s.T,s.H.set m (some .dead),[]⟩) hE hs' p4 hres hk.1;exact⟨u,h2,.ret (resOne us),_,η',φ',hk.2,by simpa using p2,p1,⟨u,h1,rfl⟩,hs'⟩
    ·exact hk.elim
   ·exact hk.elim
  ·exact hk.elim
 show bodyPostQ P fn _ e a w';have k:retKM E fn.results.toList (fun v h1=> ∃ce' h2,K ce' h2∧EntC h.length (.ret v) h1 ce' h2) se s ob:=k;unfold retKM at k;split at k
 ·have pe:e= .normal:=pe;subst pe;exact main k
 ·have pe:e= .ret:=pe;subst pe;exact main k
 ·exact k.elim
theorem Ent.trans{n:Nat}{s t u:St}(h1:Ent n s t)(h2:Ent n t u):Ent n s u:=by
 intro η φ w0 Ef w a hn hs hT hD;obtain⟨η',φ',p1,p2,p3,p4,p5⟩:=h1 η φ w0 Ef w a hn hs hT hD;obtain⟨η2,φ2,q1,q2,q3,q4,q5⟩:=h2 η' φ' w0 Ef w a p2 p3 p4 p5;exact⟨η2,φ2,fun i hi=>(q1 i hi).trans (p1 i hi),q2,q3,q4,q5⟩
theorem trel_args{η:Nam} : ∀{args:List SV} {vs:List Value},denL η args=some vs→TRel η (args.map fun v=>some (none,v)) vs.toArray:=by
 intro args vs hd;refine⟨by simp[denL_length hd],fun k g sv hk=>?_⟩;simp only[List.getElem?_map,Option.map_eq_some_iff,Option.some.injEq,Prod.mk.injEq]at hk;obtain⟨x,hx,rfl,rfl⟩:=hk;obtain⟨v,h1,h2⟩:=denL_get hd hx;exact⟨fun _=>⟨v,h1,by simpa using h2⟩,fun hf=>by cases hf⟩
theorem args_trel{η:Nam} : ∀{args:List SV} {vs:List Value},TRel η (args.map fun v=>some (none,v)) vs.toArray→denL η args=some vs
 |[],vs,h=>by
  have:=h.1;simp at this;subst this;rfl
 |x::xs,vs,h=>by
  have hl:=h.1;cases vs with
  |nil=>simp at hl
  |cons v vs=>
   obtain⟨u,h1,h2⟩:=(h.2 0 none x (by simp)).1 rfl;simp at h2;subst h2;refine denL_cons.2 ⟨_,_,h1,args_trel ⟨by simpa using hl,fun k g sv hk=>?_⟩,rfl⟩;have:=h.2 (k+1) g sv (by simpa using hk);simpa using this
def argT(args:List SV):Tm:=args.map fun v=>some (none,v)
theorem CallP.pre{P:Program}{f:FuncId}{args args':List SV}{h h':SHeap}{K:CE→SHeap→Prop}(he:Ent h.length ⟨argT args,h,[]⟩ ⟨argT args',h',[]⟩)(hc:CallP P f args' h' K):CallP P f args h K:=by
 intro η φ w0 Ef w vs hs hd;obtain⟨η',φ',p1,p2,p3,p4,_⟩:=he η φ w0 Ef w {tmps:=vs.toArray,defers:=[]} (Nat.le_refl _) hs (trel_args hd) rfl;refine(hc η' φ' w0 Ef w vs p3 (args_trel p4)).mono ?_;rintro e w' ⟨ce,h1,η1,φ1,k,q1,q2,q3⟩;exact⟨ce,h1,η1,φ1,k,Nat.le_trans p2 q1,fun i hi=>(q2 i (Nat.lt_of_lt_of_le hi p2)).trans (p1 i hi),q3⟩
theorem YieldP.pre{P:Program}{i:Nat}{args args':List SV}{h h':SHeap}{K:CE→SHeap→Prop}(he:Ent h.length ⟨argT args,h,[]⟩ ⟨argT args',h',[]⟩)(hi:i<h.length)(hc:YieldP P i args' h' K):YieldP P i args h K:=by
 intro η φ w0 Ef w vs hs hd;obtain⟨η',φ',p1,p2,p3,p4,_⟩:=he η φ w0 Ef w {tmps:=vs.toArray,defers:=[]} (Nat.le_refl _) hs (trel_args hd) rfl;obtain⟨a,f,tmps,assign,body,e1,e2,e3⟩:=hc η' φ' w0 Ef w vs p3 (args_trel p4);refine⟨a,f,tmps,assign,body,by rw[←p1 i hi];exact e1,e2,e3.mono ?_⟩;rintro e w' ⟨ce,h1,η1,φ1,k,q1,q2,q3⟩;exact⟨ce,h1,η1,φ1,k,Nat.le_trans p2 q1,fun i hi=>(q2 i (Nat.lt_of_lt_of_le hi p2)).trans (p1 i hi),q3⟩
theorem vecNil{n:Nat}{T:Tm}{H:SHeap}{D:List SV}{i:Nat}(sz:Nat)(get:Nat→List SV)(hi:H[i]?=some (some (.cells [.snil]))):Ent n ⟨T,H,D⟩ ⟨T,H.set i (some (.vec sz 0 get)),D⟩:=by
 intro η φ w0 Ef w a hn hs hT hD;obtain⟨ad,had⟩:=hs.named i _ hi;obtain⟨h0,Ty,vs,hd,hw⟩:=hs.holds i _ ad hi had;simp only[denL,den,Option.bind_some,Option.map_some,Option.some.injEq]at hd;subst hd;have:=hs.join (o':= .vec sz 0 get) hi had hi had rfl rfl (fun b=>b=ad.1) (fun b hb=> .inl (Eq.symm hb)) ⟨h0,rfl,.inl ⟨rfl,Ty,hw⟩⟩;rw[List.set_set]at this;exact⟨η,_,fun _ _=>rfl,by simpa using hn,this,hT,hD⟩
theorem vecClose{n:Nat}{T:Tm}{H:SHeap}{D:List SV}{i j sz k cap:Nat}{get:Nat→List SV}(hi:H[i]?=some (some (.cells [.slice j sz 0 k cap])))(hj:H[j]?=some (some (.arr sz k cap get)))(hk:0<k)(hcap:cap≤9223372036854775807):
  Ent n ⟨T,H,D⟩ ⟨T,(H.set j (some .dead)).set i (some (.vec sz k get)),D⟩:=by
 intro η φ w0 Ef w a hn hs hT hD;obtain⟨ai,hai⟩:=hs.named i _ hi;obtain⟨aj,haj⟩:=hs.named j _ hj;obtain⟨h0,Ty,vs,hd,hw⟩:=hs.holds i _ ai hi hai;obtain⟨g0,Ty',c,g1,g2,g3,g4⟩:=hs.holds j _ aj hj haj;simp only[denL,den,haj,Option.map_some,Option.bind_some,Option.some.injEq]at hd;subst hd;have hij:i≠j:=fun e=>by subst e;rw[hi]at hj;cases hj
 have hne:aj.1≠ai.1:=fun e=>hs.sep i j _ _ ai aj ai.1 hij hi hj hai haj rfl rfl e
 have:=hs.join (o':= .vec sz k get) hi hai hj haj rfl rfl (fun b=>b=ai.1∨b=aj.1) (fun b hb=>hb.elim (fun e=> .inl e.symm) (fun e=> .inr e.symm))
  ⟨h0,.inl rfl,.inr ⟨hk,Ty,aj.1,cap,Ty',c,by simpa[g0]using hw,hne,.inr rfl,g1,g2,g3,hcap,g4⟩⟩
 exact⟨η,_,fun _ _=>rfl,by simpa using hn,this,hT,hD⟩
theorem Sat.openVec{η:Nam}{φ:Feet}{h:SHeap}{w0:World}{Ef:Nat→Prop}{w:World}{i sz k:Nat}{get:Nat→List SV}(s:Sat η φ h w0 Ef w)(hi:h[i]?=some (some (.vec sz k get))):
    (k=0∧Sat η φ (h.set i (some (.cells [.snil]))) w0 Ef w)∨
    (0<k∧ ∃cap η',k≤cap∧cap≤9223372036854775807∧η.le η'∧Pin h.length η η'∧Sat η' φ ((h.set i (some (.cells [.slice h.length sz 0 k cap])))++[some (.arr sz k cap get)]) w0 Ef w):=by
  obtain⟨ad,had⟩:=s.named i _ hi
  obtain⟨h0,hF,hh⟩:=s.holds i _ ad hi had
  have hli:=lt_of_get hi
  rcases hh with⟨hk,T,hw⟩|⟨hk,T,b,cap,T',c,hw,hbn,hFb,hwb,hsz,hkc,hcap,hrows⟩
  · refine .inl ⟨hk,s.upd (o':= .cells [.snil]) hi had rfl (fun b hb=>?_) rfl (fun _ _=>rfl) ⟨h0,T,_,rfl,hw⟩⟩
    have hb:ad.1=b:=hb
    subst hb
    exact hF
  · have hnone:η h.length=none:=by
      cases e:η h.length with
      |none=>rfl
      |some x=>obtain⟨o,ho⟩:=s.dom _ x e;simp at ho
    have hle:=Nam.le_put (a:=(b,0)) hnone
    have hput:(η.put h.length (b,0)) h.length=some (b,0):=Nam.put_same _ _ _
    have hoth: ∀j,j≠h.length→(η.put h.length (b,0)) j=η j:=fun j hj=>Nam.put_other _ _ hj
    have key: ∀j oj,((h.set i (some (.cells [.slice h.length sz 0 k cap])))++[some (SObj.arr sz k cap get)])[j]?=some (some oj)→
        (j=i∧oj= .cells [.slice h.length sz 0 k cap])∨(j=h.length∧oj= .arr sz k cap get)∨(j≠i∧j≠h.length∧j<h.length∧h[j]?=some (some oj)):=fun j oj hj=>by
      rw[List.getElem?_append]at hj
      split at hj
      · rename_i hjl
        simp at hjl
        rcases get_set hj with⟨h1,h2,_⟩|⟨h1,h2⟩
        · cases h2;exact .inl ⟨h1,rfl⟩
        · exact .inr (.inr ⟨h1,by omega,hjl,h2⟩)
      · rename_i hjl
        simp at hjl
        have:j=h.length:=by
          rcases Nat.lt_or_ge h.length j with h1|h1
          · rw[List.getElem?_eq_none (by simp;omega)]at hj;cases hj
          · omega
        subst this
        simp at hj
        exact .inr (.inl ⟨rfl,hj.symm⟩)
    refine .inr ⟨hk,cap,η.put h.length (b,0),hkc,hcap,hle,fun j hj=>hoth j (by omega),?_⟩
    exact
      { size := s.size
        env:=s.env
        keep:=s.keep
        dom:=fun j a hj=>by
          by_cases hjl:j=h.length
          · subst hjl;exact⟨.arr sz k cap get,by simp⟩
          · rw[hoth j hjl]at hj
            obtain⟨o,ho⟩:=s.dom j a hj
            have hjl':=lt_of_get ho
            rw[List.getElem?_append_left (by simpa using hjl')]
            by_cases hji:j=i
            · subst hji;exact⟨.cells [.slice h.length sz 0 k cap],by simp[hli]⟩
            · exact⟨o,by rw[List.getElem?_set_ne (Ne.symm hji)];exact ho⟩
        named:=fun j oj hj=>by
          rcases key j oj hj with⟨rfl,_⟩|⟨rfl,_⟩|⟨_,_,_,h3⟩
          · exact⟨_,hle _ _ had⟩
          · exact⟨_,hput⟩
          · obtain⟨a,ha⟩:=s.named j oj h3;exact⟨a,hle _ _ ha⟩
        holds:=fun j oj a hj ha=>by
          rcases key j oj hj with⟨rfl,rfl⟩|⟨rfl,rfl⟩|⟨_,h2,_,h3⟩
          · rw[hle _ _ had]at ha;cases ha
            exact⟨h0,T,[.slice (some ⟨b,0,none⟩) k cap],by simp[denL,den,hput],hw⟩
          · rw[hput]at ha;cases ha
            exact⟨rfl,T',c,hwb,hsz,hkc,fun x hx=>let⟨vs,hd,r⟩:=hrows x hx;⟨vs,denL_mono hle _ _ hd,r⟩⟩
          · rw[hoth j h2]at ha
            exact SObj.holds_mono hle (s.holds j oj a h3 ha)
        bnd:=fun j oj a x hj ha hx=>by
          rcases key j oj hj with⟨rfl,rfl⟩|⟨rfl,rfl⟩|⟨_,h2,_,h3⟩
          · rw[hle _ _ had]at ha;cases ha
            have hx:ad.1=x:=hx
            subst hx
            exact s.bnd _ _ ad _ hi had hF
          · rw[hput]at ha;cases ha
            have hx:b=x:=hx
            subst hx
            exact s.bnd _ _ ad _ hi had hFb
          · rw[hoth j h2]at ha
            exact s.bnd j oj a x h3 ha hx
        own:=fun j oj a x hj ha hr hx=>by
          rcases key j oj hj with⟨rfl,rfl⟩|⟨rfl,rfl⟩|⟨_,h2,_,h3⟩
          · rw[hle _ _ had]at ha;cases ha
            have hx:ad.1=x:=hx
            subst hx
            exact s.own _ _ ad _ hi had rfl hF
          · rw[hput]at ha;cases ha
            have hx:b=x:=hx
            subst hx
            exact s.own _ _ ad _ hi had rfl hFb
          · rw[hoth j h2]at ha
            exact s.own j oj a x h3 ha hr hx
        sep:=fun j l oj ol aj al x hjl hj hl haj hal hr hx hy=>by
          rcases key j oj hj with⟨rfl,rfl⟩|⟨rfl,rfl⟩|⟨g1,g2,_,g3⟩
          · rw[hle _ _ had]at haj;cases haj
            have hx:ad.1=x:=hx
            subst hx
            rcases key l ol hl with⟨rfl,rfl⟩|⟨rfl,rfl⟩|⟨e1,e2,_,e3⟩
            · exact hjl rfl
            · rw[hput]at hal;cases hal
              exact hbn hy
            · rw[hoth l e2]at hal
              exact s.sep _ l _ ol ad al _ (Ne.symm e1) hi e3 had hal rfl hF hy
          · rw[hput]at haj;cases haj
            have hx:b=x:=hx
            subst hx
            rcases key l ol hl with⟨rfl,rfl⟩|⟨rfl,rfl⟩|⟨e1,e2,_,e3⟩
            · rw[hle _ _ had]at hal;cases hal
              exact hbn hy.symm
            · exact hjl rfl
            · rw[hoth l e2]at hal
              exact s.sep _ l _ ol ad al _ (Ne.symm e1) hi e3 had hal rfl hFb hy
          · rw[hoth j g2]at haj
            rcases key l ol hl with⟨rfl,rfl⟩|⟨rfl,rfl⟩|⟨e1,e2,_,e3⟩
            · rw[hle _ _ had]at hal;cases hal
              have hy:ad.1=x:=hy
              subst hy
              exact s.sep j _ oj _ aj ad _ g1 g3 hi haj had hr hx hF
            · rw[hput]at hal;cases hal
              have hy:b=x:=hy
              subst hy
              exact s.sep j _ oj _ aj ad _ g1 g3 hi haj had hr hx hFb
            · rw[hoth l e2]at hal
              exact s.sep j l oj ol aj al x hjl g3 e3 haj hal hr hx hy}
theorem YieldP.openVec{P:Program}{l:Nat}{args:List SV}{h:SHeap}{K:CE→SHeap→Prop}{i sz k:Nat}{get:Nat→List SV}(hi:h[i]?=some (some (.vec sz k get)))
  (h0:k=0→YieldP P l args (h.set i (some (.cells [.snil]))) K)
  (h1:0<k→ ∀cap,k≤cap→cap≤9223372036854775807→YieldP P l args ((h.set i (some (.cells [.slice h.length sz 0 k cap])))++[some (.arr sz k cap get)]) K):YieldP P l args h K:=by
 intro η φ w0 Ef w vs hs hd
 rcases hs.openVec hi with⟨hk,hs'⟩|⟨hk,cap,η',hkc,hcap,hle,hp,hs'⟩
 ·have:=h0 hk η φ w0 Ef w vs hs' hd
  simpa using this
 ·obtain⟨a,f,tmps,assign,body,e1,e2,e3⟩:=h1 hk cap hkc hcap η' φ w0 Ef w vs hs' (denL_mono hle _ _ hd)
  have hl: ∀x,η' l=some x→l<h.length→η l=some x:=fun x hx hl=>by rw[←hp l hl];exact hx
  have hll:l<h.length:=by
   obtain⟨o,ho⟩:=hs'.dom l a e1
   have:=lt_of_get ho
   simp at this
   rcases Nat.lt_or_ge l h.length with hl|hl
   ·exact hl
   ·have e:l=h.length:=by omega
    subst e
    simp at ho
    subst ho
    exfalso
    obtain⟨_,T,c,hc,_⟩:=hs'.holds h.length (.arr sz k cap get) a (by simp) e1
    simp only[Instr.yield,Instr.getLoop,getObj,Sem.run,Sem.run_bind]at e2
    simp[hc]at e2
  refine⟨a,f,tmps,assign,body,hl a e1 hll,e2,e3.mono ?_⟩
  rintro e w' ⟨ce,h2,η2,φ2,q,q1,q2,q3⟩
  exact⟨ce,h2,η2,φ2,q,by simp at q1;omega,hp.trans (fun x hx=>q2 x (by simp;omega)) (Nat.le_refl _),q3⟩
theorem CallP.postVec{P:Program}{f:FuncId}{args:List SV}{h:SHeap}{K:CE→SHeap→Prop}{i:Nat}
  (hc:CallP P f args h fun ce h1=> ∃sz k get,h1[i]?=some (some (.vec sz k get))∧(k=0→K ce (h1.set i (some (.cells [.snil]))))∧
   (0<k→ ∀cap,k≤cap→cap≤9223372036854775807→K ce ((h1.set i (some (.cells [.slice h1.length sz 0 k cap])))++[some (.arr sz k cap get)]))):CallP P f args h K:=by
 intro η φ w0 Ef w vs hs hd;refine(hc η φ w0 Ef w vs hs hd).mono ?_;rintro e w' ⟨ce,h1,η1,φ1,⟨sz,k,get,hi,k0,k1⟩,q1,q2,q3,q4⟩;rcases q4.openVec hi with⟨hk,hs'⟩|⟨hk,cap,η',hkc,hcap,hle,hp,hs'⟩
 ·exact⟨ce,_,η1,φ1,k0 hk,by simpa using q1,q2,q3,hs'⟩
 ·refine⟨ce,_,η',φ1,k1 hk cap hkc hcap,by simp;omega,q2.trans hp q1,?_,hs'⟩;cases ce with
  |ret v=>obtain⟨u,hu,rfl⟩:=q3;exact⟨u,den_mono hle _ _ hu,rfl⟩
  |panic v=>obtain⟨u,hu,rfl⟩:=q3;exact⟨u,den_mono hle _ _ hu,rfl⟩
theorem drawQ{E:Env}{P:Program}(hE:E.ok P){r:Option Nat}{n id:Nat}{ops:Array Oper}{s:St}{K:SE→St→Prop}(ks:List Nat)(plan:Plan)(hc:checkPlanF ops plan=true)
  (hx : fcSt ⟨s.T, lockH ks 0 s.H, s.D⟩ fun s1 => planX E P r s1.H ops.toList plan s1 [] fun se s' ob => match se with
   | .normal => fcP ob fun ob => AllP ob ∧ roB s1.H s'.H = true ∧ fcH (unlH s.H s1.H s'.H) fun H => K .normal ⟨s'.T, H, s'.D⟩
   | .panic v => fcP ob fun ob => AllP ob ∧ roB s1.H s'.H = true ∧ fcH (unlH s.H s1.H s'.H) fun H => fcL s'.T fun T => K (.panic v) ⟨T, H, s'.D⟩
   |_=>False):CodeP P r n (.region id ops true) s K:=by
 refine drawP hE ks plan hc ?_;rw[fcSt_eq]at hx⊢;refine Eq.mp (congrArg (planX E P r _ ops.toList plan _ []) ?_) hx;funext se s' ob;cases se with
 |panic v=>simp only[fcL_eq]
 |_=>rfl
def fcC(ce:CE)(k:CE→Prop):Prop:=
 match ce with
 | .ret v=>fcW v fun v=>k (.ret v)
 | .panic v=>fcW v fun v=>k (.panic v)
theorem fcC_eq(ce:CE)(k:CE→Prop):fcC ce k=k ce:=by
 cases ce<;>simp[fcC,fcW_eq]
theorem CallP.frameH{P:Program}{f:FuncId}{a0 args:List SV}{h0 h:SHeap}{K0 K:CE→SHeap→Prop}(hc:CallP P f a0 h0 K0)(σ:List Nat)
  (hf:Fits (sig σ h.length) h σ h0) (ha:renL (sig σ h.length) a0=args)
  (hk : ∀ ce h', K0 ce h' → ownB h0 h' = true ∧ fcH (updH σ h h0 h') fun H => fcC (renC (sig σ h.length) ce) fun ce => K ce H)
  (hap:apartB σ h0=true:=by rfl):CallP P f args h K:=
 CallP.frame hc σ hf (apartB_ok hap) ha fun ce h' hK=>by
  obtain⟨h1,h2⟩:=hk ce h' hK
  rw[fcH_eq,fcC_eq]at h2
  exact⟨ownB_ok h1,h2⟩
theorem entV{n:Nat}{v v':SV}{H:SHeap}{D:List SV}(h: ∀η,den η v=den η v'):Ent n ⟨[some (none,v)],H,D⟩ ⟨[some (none,v')],H,D⟩:=by
 intro η φ w0 Ef w a hn hs hT hD;refine⟨η,φ,fun _ _=>rfl,hn,hs,⟨hT.1,fun k g sv hk=>?_⟩,hD⟩;cases k with
 |zero=>
  simp only[List.getElem?_cons_zero,Option.some.injEq,Prod.mk.injEq]at hk;obtain⟨rfl,rfl⟩:=hk;refine⟨fun _=>?_,fun hf=>by cases hf⟩;obtain⟨u,h1,h2⟩:=(hT.2 0 none v rfl).1 rfl;exact⟨u,by rw[←h];exact h1,h2⟩
 |succ k=>simp at hk
theorem entCells{n:Nat}{T:Tm}{H:SHeap}{D:List SV}{i:Nat}{cs cs':List SV}(hi:H[i]?=some (some (.cells cs)))(h: ∀η,denL η cs=denL η cs'):Ent n ⟨T,H,D⟩ ⟨T,H.set i (some (.cells cs')),D⟩:=by
 intro η φ w0 Ef w a hn hs hT hD;refine⟨η,φ,fun _ _=>rfl,by simpa using hn,hs.less hi (fun _ _ hb=>hb) (fun _=>rfl) (fun ad hh=>?_),hT,hD⟩;obtain⟨h0,Ty,vs,hd,hw⟩:=hh;exact⟨h0,Ty,vs,by rw[←h];exact hd,hw⟩
theorem codeP_ret{P:Program}{r:Option Nat}{n:Nat}{s:St}{K:SE→St→Prop}(h:K .ret s):CodeP P r n .ret s K:=
 fun _ _ _ _ _ _ _ h1 h2 h3 h4 h5=>wpIn_ret (Post.ex h rfl ⟨h1,h2,h3,h4,h5⟩)
theorem CodeP.pre{P:Program}{r:Option Nat}{n:Nat}{c:Code}{s t:St}{K:SE→St→Prop}(he:Ent n s t)(hc:CodeP P r n c t K):CodeP P r n c s K:=by
 intro η0 η φ w0 Ef w a h1 h2 h3 h4 h5;obtain⟨η',φ',p1,p2,p3,p4,p5⟩:=he η φ w0 Ef w a h2 h3 h4 h5;exact hc η0 η' φ' w0 Ef w a (fun i hi=>(p1 i hi).trans (h1 i hi)) p2 p3 p4 p5
end Go.Sy
