/-
  Parts: Sy10.
-/
import Derived.Test.YthnhlkflkidemaaGreatDoorB8
set_option linter.unusedVariables false
set_option linter.unusedSimpArgs false
/-
 Sy10: a step in the symbolic state is a step of the machine. No program is named.
-/
namespace Go.Sy
structure Rel(n:Nat)(η0:Nam)(w0:World)(Ef:Nat→Prop)(s:St)(η:Nam)(φ:Feet)(a:Act)(w:World):Prop where
 pin:Pin n η0 η
 len:n≤s.H.length
 sat:Sat η φ s.H w0 Ef w
 tmps:TRel η s.T a.tmps
 defers:DRel η s.D a.defers
structure Goes(n:Nat)(η0:Nam)(w0:World)(Ef:Nat→Prop)(K:KS)(next:Act→World→Prop)(Q:Exit→Act→World→Prop):Prop where
 next: ∀s ob η φ a w,K .normal s ob→Rel n η0 w0 Ef s η φ a w→next a w
 panic: ∀v s ob η φ a w u,K (.panic v) s ob→Rel n η0 w0 Ef s η φ a w→den η v=some u→Q (.panic [{v:=u,recovered:=false}]) a w
theorem run_callFunc{E:Env}{P:Program}(hE:E.ok P){k:Nat}(hk:E.fn k=true)(args:Array Value)(w:World):(callFunc k args).run P w= .ok (.enter k args) w:=by
 obtain⟨f,h1,h2,h3⟩:=hE.fn k hk;have h4:f.body.isNone=false:=by cases hb:f.body<;>simp[hb]at h2⊢
 simp only[callFunc,Sem.run_bind,run_program,Result.andThen_ok,h1,h3,h4,Bool.false_eq_true,if_false,Sem.run_pure]
section
variable {E:Env} {P:Program} {r:Option Nat} {n:Nat} {η0:Nam} {w0:World} {Ef:Nat→Prop} {K:KS} {next:Act→World→Prop} {Q:Exit→Act→World→Prop}
theorem uponIn_call{o:Oper}{s:St}{η:Nam}{φ:Feet}{a:Act}{w:World}(hg:Goes n η0 w0 Ef K next Q)(hr:Rel n η0 w0 Ef s η φ a w){f:Nat}{args:List SV}{vs:List Value}(hd:denL η args=some vs)
  (hc:CallP P f args s.H fun ce H'=>match ce with
   | .ret v => fcV v fun v => fcL (putT s.T o.dst (some (none, v))) fun T' => fcL H' fun H' => K .normal ⟨T', H', s.D⟩ []
   | .panic v=>K (.panic v) ⟨s.T,H',s.D⟩ []):
  o.uponIn (Fw r) 0 P a next Q (.ok (.enter f vs.toArray) w):=by
 refine⟨fun h=>by simp[Fw,Fence.wide]at h,callsIn_fw ((hc η φ w0 Ef w vs hr.sat hd).mono ?_)⟩;rintro e w' ⟨ce,h',η',φ',hk,hl,hp,hce,hs⟩;have hle:=Nam.le_of_pin hr.sat hp;cases ce with
 |ret v=>
  simp only[fcV_eq,fcL_eq]at hk;obtain⟨u,hu,rfl⟩:=hce;exact hg.next _ _ η' φ' _ _ hk ⟨hr.pin.trans hp hr.len,Nat.le_trans hr.len hl,hs,TRel.put (hr.tmps.mono hle) _ (fun _=>hu) (fun h=>by cases h),by rw[Act.put_defers'];exact hr.defers.mono hle⟩
 |panic v=>
  obtain⟨u,hu,rfl⟩:=hce;exact hg.panic _ _ _ η' φ' _ _ u hk ⟨hr.pin.trans hp hr.len,Nat.le_trans hr.len hl,hs,hr.tmps.mono hle,hr.defers.mono hle⟩ hu
theorem calleeOf_ok(hE:E.ok P){T:Tm}{h:SHeap}{c:Call}{args args':List SV}{f:Nat}(he:calleeOf E T h c args=some (f,args')){η:Nam}{a:Act}{vs:List Value}
  (hld: ∀x∈c.operands.toList,∀sv,ldv T h x=some sv→den η sv=some (a.eval x)) (hvs:denL η args=some vs) (hargs:c.args.map a.eval=vs.toArray) (ty:TypeId) (w:World):
  ∃us,denL η args'=some us∧(do let d←resolve a.eval c ty;invoke d.target d.args:Sem Next).run P w= .ok (.enter f us.toArray) w:=by
 unfold calleeOf at he
 split at he
 ·rename_i x hx
  split at he
  ·rename_i k first cap hv
   split at he
   ·rename_i hk
    simp only[Option.some.injEq,Prod.mk.injEq]at he
    obtain⟨rfl,rfl⟩:=he
    have hd:=hld x (by simp[Call.operands,hx]) _ hv
    simp only[den,Option.bind_eq_some_iff,Option.map_eq_some_iff]at hd
    obtain⟨fs,hfs,cs,hcs,hev⟩:=hd
    refine⟨(fs++vs)++cs,denL_append (denL_append hfs hvs) hcs,?_⟩
    simp only[resolve,hx,Deferred.ofValue,←hev,pure_bind,invoke,hargs]
    rw[run_callFunc hE hk]
    simp
   ·cases he
  ·cases he
 ·rename_i x name hx
  split at he
  ·rename_i t v hv
   split at he
   ·rename_i k hk
    simp only[Option.some.injEq,Prod.mk.injEq]at he
    obtain⟨rfl,rfl⟩:=he
    have hd:=hld x (by simp[Call.operands,hx]) _ hv
    simp only[den,Option.map_eq_some_iff]at hd
    obtain⟨u,hu,hev⟩:=hd
    obtain⟨h1,h2⟩:=hE.meth _ _ _ hk
    refine⟨u::vs,denL_cons.2 ⟨u,vs,hu,hvs,rfl⟩,?_⟩
    simp only[resolve,hx,pure_bind,invoke,hargs,←hev]
    have e0:(#[Value.iface t u]++vs.toArray)[0]?=some (.iface t u):=by simp
    simp only[e0,callMethod,Sem.run_bind,run_program,Result.andThen_ok,h2 u w]
    rw[run_callFunc hE h1]
    congr 2
    apply Array.ext'
    simp
   ·cases he
  ·cases he
 ·cases he
theorem yieldOf_ok{T:Tm}{h:SHeap}{c:Call}{i:Nat}(he:yieldOf T h c=some i){η:Nam}{a:Act}{vs:List Value}
  (hld: ∀x∈c.operands.toList,∀sv,ldv T h x=some sv→den η sv=some (a.eval x)) (hargs:c.args.map a.eval=vs.toArray) (ty:TypeId) (w:World):
  ∃b,η i=some b∧(do let d←resolve a.eval c ty;invoke d.target d.args:Sem Next).run P w=(Instr.yield b.1 vs.toArray).run P w:=by
 unfold yieldOf at he
 split at he
 ·rename_i x hx
  split at he
  ·rename_i j hv
   simp only[Option.some.injEq]at he
   subst he
   have hd:=hld x (by simp[Call.operands,hx]) _ hv
   simp only[den,Option.map_eq_some_iff]at hd
   obtain⟨b,hb,hev⟩:=hd
   refine⟨b,hb,?_⟩
   simp only[resolve,hx,Deferred.ofValue,←hev,pure_bind,invoke,hargs]
   simp
  ·cases he
 ·cases he
theorem uponIn_yield{o:Oper}{s:St}{η:Nam}{φ:Feet}{a:Act}{w:World}(hg:Goes n η0 w0 Ef K next Q)(hr:Rel n η0 w0 Ef s η φ a w){i:Nat}{b:Nat×Nat}{args:List SV}{vs:List Value}(hi:η i=some b)(hd:denL η args=some vs)
  (hc:YieldP P i args s.H fun ce H'=>match ce with
   | .ret v => fcV v fun v => fcL (putT s.T o.dst (some (none, v))) fun T' => fcL H' fun H' => K .normal ⟨T', H', s.D⟩ []
   | .panic v=>K (.panic v) ⟨s.T,H',s.D⟩ []):
  o.uponIn (Fw r) 0 P a next Q ((Instr.yield b.1 vs.toArray).run P w):=by
 obtain⟨b',f,tmps,assign,body,e1,e2,e3⟩:=hc η φ w0 Ef w vs hr.sat hd;rw[hi]at e1;cases e1;rw[e2];have e3':RoundIn (Fw r) 0 P b.1 f tmps assign body w _:=e3;refine⟨fun h=>by simp[Fw,Fence.wide]at h,e3'.mono ?_⟩;rintro e w' ⟨ce,h',η',φ',hk,hl,hp,hce,hs⟩;have hle:=Nam.le_of_pin hr.sat hp;cases ce with
 |ret v=>
  simp only[fcV_eq,fcL_eq]at hk;obtain⟨u,hu,rfl⟩:=hce;exact hg.next _ _ η' φ' _ _ hk ⟨hr.pin.trans hp hr.len,Nat.le_trans hr.len hl,hs,TRel.put (hr.tmps.mono hle) _ (fun _=>hu) (fun h=>by cases h),by rw[Act.put_defers'];exact hr.defers.mono hle⟩
 |panic v=>
  obtain⟨u,hu,rfl⟩:=hce;exact hg.panic _ _ _ η' φ' _ _ u hk ⟨hr.pin.trans hp hr.len,Nat.le_trans hr.len hl,hs,hr.tmps.mono hle,hr.defers.mono hle⟩ hu
theorem ldv_den{s:St}{η:Nam}{φ:Feet}{a:Act}{w:World}(hr:Rel n η0 w0 Ef s η φ a w){G:Option Bool}(hG:G.getD true=true){l:List Operand}(ho: ∀p∈gObs G s.T s.H l,p):
  ∀x∈l,∀sv,ldv s.T s.H x=some sv→den η sv=some (a.eval x):=fun x hx sv hv=>by
 obtain⟨g,hg⟩:=ldv_ok hv;exact ldG_ok hr.sat hr.tmps hg (gObs_ok ho hG x hx g sv hg)
theorem evSq_ok(hE:E.ok P)(hg:Goes n η0 w0 Ef K next Q){o:Oper}{G:Option Bool}{s:St}{ob:List Prop}(h:evSq E P r o G s ob K){η:Nam}{φ:Feet}{a:Act}{w:World}(hr:Rel n η0 w0 Ef s η φ a w):
  (G.getD true=true→o.uponIn (Fw r) 0 P a next Q ((o.semAt (Fw r).round a.eval).run P w))∧(G.getD true=false→next (a.put o.dst undef) w):=by
 unfold evSq at h
 split at h
 ·rename_i c ho
  have hsem:o.semAt (Fw r).round a.eval=(do let d←resolve a.eval c o.type;invoke d.target d.args):=by
   rw[Oper.semAt_eq _ _ _ (fun c' e=>by rw[ho]at e;cases e)]
   simp only[execOp,ho]
  rw[hsem]
  split at h
  ·-- append
   rename_i happ
   split at h
   ·rename_i x y t t' hargs htys
    refine⟨fun _=>?_,fun hf=>by cases hf⟩
    split at h
    ·rename_i htt
     subst htt
     split at h
     ·rename_i q hq
      obtain⟨hob,hk⟩:=h
      rw[AllP_iff]at hob
      have hcal:c.callee= .builtin .append:=by
       unfold isAppend at happ
       split at happ
       ·assumption
       ·cases happ
      have hld:=ldv_den hr (G:=none) rfl (l:=c.args.toList) (fun p hp=>hob p (by simp[hp]))
      have hdl:=ldL_ok hld hargs
      obtain⟨xv,us,hx,hus,e1⟩:=denL_cons.1 hdl
      obtain⟨yv,us2,hy,hus2,e2⟩:=denL_cons.1 hus
      simp only[denL,Option.some.injEq]at hus2
      subst hus2
      subst e2
      have ha:c.args.map a.eval= #[xv,yv]:=by apply Array.ext';simpa using e1
      have hty:c.argTypes= #[t,t]:=by apply Array.ext';simpa using htys
      have hs1:=hr.sat.room 1
      have hn1:(s.H++List.replicate 1 none)[s.H.length]?=some none:=by simp
      obtain⟨cap,w',η',hrun,h1,h2,h3,h4,h5,h6,h7⟩:=evApp_ok (P:=P) hE hq (fun p hp=>hob p (by simp[hp])) hs1 hn1 hx hy o.type
      have hk':=hk cap h3 h4
      simp only[fcL_eq]at hk'
      have hexec:(do let d←resolve a.eval c o.type;invoke d.target d.args:Sem Next).run P w= .ok (.value (.slice (some ((η' s.H.length).getD (0,0)|>fun a=>⟨a.1,a.2,none⟩)) q.len cap)) w':=by
       simp only[resolve,hcal,pure_bind,invoke,builtin,ha,hty,Sem.run_bind,hrun,Result.andThen_ok,Sem.run_pure]
      rw[hexec,Oper.uponIn_value]
      have hpin:Pin s.H.length η η':=fun i hi=>h6 i (by omega)
      obtain⟨b,hb⟩:=Option.isSome_iff_exists.1 h1
      refine hg.next _ _ η' φ _ _ hk' ⟨hr.pin.trans hpin hr.len,?_,h7,TRel.put (hr.tmps.mono h5) _ (fun _=>?_) (fun hf=>by cases hf),by rw[Act.put_defers'];exact hr.defers.mono h5⟩
      ·have:=hr.len
       cases q.old<;>simp<;>omega
      ·simp[den,hb]
     ·exact h.elim
    ·exact h.elim
   ·exact h.elim
  ·-- a call
   split at h
   ·rename_i args hargs
    split at h
    ·rename_i f args' hcal
     have main: ∀G':Option Bool,G'.getD true=true→(∀p∈gObs G' s.T s.H c.operands.toList,p)→(fcL args' fun args'=>CallP P f args' s.H fun ce H'=>
       match ce with
       | .ret v => fcV v fun v => fcL (putT s.T o.dst (some (none, v))) fun T' => fcL H' fun H' => K .normal ⟨T', H', s.D⟩ []
       | .panic v=>K (.panic v) ⟨s.T,H',s.D⟩ [])→o.uponIn (Fw r) 0 P a next Q ((do let d←resolve a.eval c o.type;invoke d.target d.args:Sem Next).run P w):=by
      intro G' hG' ho hc
      rw[fcL_eq]at hc
      have hld:=ldv_den hr hG' ho
      have hdl:=ldL_ok (fun x hx=>hld x (by simp at hx;simp[Call.operands,hx])) hargs
      obtain⟨us,h1,h2⟩:=calleeOf_ok hE hcal hld hdl (by apply Array.ext';simp) o.type w
      rw[h2]
      exact uponIn_call hg hr h1 hc
     split at h
     ·rw[fcP_eq]at h
      obtain⟨hob,hc⟩:=h
      rw[AllP_iff]at hob
      exact⟨fun _=>main none rfl (fun p hp=>hob p (by simp[hp])) hc,fun hf=>by cases hf⟩
     ·rename_i g
      rw[fcP_eq]at h
      obtain⟨hob,hc,hn⟩:=h
      rw[AllP_iff]at hob
      refine⟨fun hG=>main (some g) hG (fun p hp=>hob p (by simp[hp])) (hc hG),fun hG=>?_⟩
      have hn:=hn hG
      rw[fcL_eq]at hn
      exact hg.next _ _ η φ _ _ hn ⟨hr.pin,hr.len,hr.sat,TRel.put hr.tmps _ (fun hf=>by cases hf) (fun _=>rfl),by rw[Act.put_defers'];exact hr.defers⟩
    ·split at h
     ·rename_i i hy
      rw[fcP_eq,fcL_eq,fcN_eq]at h
      obtain⟨hob,hc⟩:=h
      rw[AllP_iff]at hob
      refine⟨fun _=>?_,fun hf=>by cases hf⟩
      have hld:=ldv_den hr (G:=none) rfl (l:=c.operands.toList) (fun p hp=>hob p (by simp[hp]))
      have hdl:=ldL_ok (fun x hx=>hld x (by simp at hx;simp[Call.operands,hx])) hargs
      obtain⟨b,h1,h2⟩:=yieldOf_ok (P:=P) (vs:=c.args.toList.map a.eval) hy hld (by apply Array.ext';simp) o.type w
      rw[h2]
      have:=uponIn_yield (r:=r) hg hr h1 hdl hc
      simpa using this
     ·exact h.elim
   ·exact h.elim
 ·-- panic
  rename_i x ho
  split at h
  ·rename_i t v hx
   refine⟨fun _=>?_,fun hf=>by cases hf⟩
   have hd:=ldG_ok hr.sat hr.tmps hx rfl
   have hd':=hd
   simp only[den,Option.map_eq_some_iff]at hd'
   obtain⟨u,hu,hev⟩:=hd'
   rw[Oper.semAt_eq _ _ _ (fun c' e=>by rw[ho]at e;cases e)]
   simp only[execOp,ho,←hev,Instr.panic,Sem.run_bind,run_goPanic,Result.andThen_halt]
   exact hg.panic _ _ _ η φ _ _ _ h hr (by rw[hd,hev])
  ·exact h.elim
 ·-- lookup
  rename_i t x ix cok ho
  split at h
  ·rename_i i cs n hx hix hmt
   split at h
   ·rename_i ks n' F has hints hi
    refine⟨fun _=>?_,fun hf=>by cases hf⟩
    rw[fcP_eq]at h
    obtain⟨_,rfl,hl,hk⟩:=h
    have hdx:=ldG_ok hr.sat hr.tmps hx rfl
    have hdk:=ldG_ok hr.sat hr.tmps hix rfl
    simp only[den,Option.map_eq_some_iff]at hdx hdk
    obtain⟨am,ham,hevx⟩:=hdx
    obtain⟨us,hus,hevk⟩:=hdk
    rw[intsOf_ok hints,denL_ints]at hus
    simp only[Option.some.injEq]at hus
    subst hus
    obtain⟨obj,hob,hmem⟩:=hr.sat.holds i _ am hi ham
    obtain⟨b,v,p1,p2,p3,hrun⟩:=run_lookup_memo (P:=P) (hE.memo t _ hmt) hob hmem hl cok
    have hk:=hk b v p1 p2 p3
    rw[fcL_eq]at hk
    rw[Oper.semAt_eq _ _ _ (fun c' e=>by rw[ho]at e;cases e)]
    have hex:(execOp a.eval o).run P w= .ok (.value (if cok then .tuple #[.int .i64 v,.bool b]else .int .i64 v)) w:=by
     have hrun':=hrun
     unfold intsV at hrun'
     simp only[execOp,ho,←hevx,←hevk,Sem.run_bind,hrun',Result.andThen_ok,Sem.run_pure]
    rw[hex,Oper.uponIn_value]
    refine hg.next _ _ η φ _ _ hk ⟨hr.pin,hr.len,hr.sat,TRel.put hr.tmps _ (fun _=>?_) (fun hf=>by cases hf),by rw[Act.put_defers'];exact hr.defers⟩
    cases cok<;>simp[den,denL]
   ·exact h.elim
  ·rename_i i k hx hix hmt
   split at h
   ·rename_i m hcm hi
    refine⟨fun _=>?_,fun hf=>by cases hf⟩
    rw[fcP_eq]at h
    obtain⟨_,hk⟩:=h
    rw[fcL_eq]at hk
    have hdx:=ldG_ok hr.sat hr.tmps hx rfl
    have hdk:=ldG_ok hr.sat hr.tmps hix rfl
    simp only[den,Option.map_eq_some_iff,Option.some.injEq]at hdx hdk
    obtain⟨am,ham,hevx⟩:=hdx
    have hob:w.heap[am.1]?=some (mapObj m):=hr.sat.holds i _ am hi ham
    have hrun:=run_lookup_cm (P:=P) (hE.cm t hcm) hob k cok
    rw[Oper.semAt_eq _ _ _ (fun c' e=>by rw[ho]at e;cases e)]
    have hex:(execOp a.eval o).run P w= .ok (.value (if cok then .tuple #[.int .i64 (aval m k),.bool (ahas m k)]else .int .i64 (aval m k))) w:=by
     simp only[execOp,ho,←hevx,←hdk,Sem.run_bind,hrun,Result.andThen_ok,Sem.run_pure]
    rw[hex,Oper.uponIn_value]
    refine hg.next _ _ η φ _ _ hk ⟨hr.pin,hr.len,hr.sat,TRel.put hr.tmps _ (fun _=>?_) (fun hf=>by cases hf),by rw[Act.put_defers'];exact hr.defers⟩
    cases cok<;>simp[den,denL]
   ·exact h.elim
  ·exact h.elim
 ·-- makeMap
  rename_i t ho
  split at h
  ·rename_i n hmt
   refine⟨fun _=>?_,fun hf=>by cases hf⟩
   rw[fcP_eq]at h
   obtain⟨_,F,hk⟩:=h
   simp only[fcL_eq]at hk
   have hs1:=hr.sat.room 1
   have hn1:(s.H++List.replicate 1 none)[s.H.length]?=some none:=by simp
   have hfree:η s.H.length=none:=hs1.free fun o=>by rw[hn1];simp
   have hnew:=hs1.new (o:= .memo n F []) (ob:= .map #[] 0) hn1 rfl (fun b hb=>hb.symm) ⟨.map #[] 0,by simp,#[],0,rfl,by simp,by simp⟩
   rw[List.set_append_right _ _ (Nat.le_refl _)]at hnew
   rw[Oper.semAt_eq _ _ _ (fun c' e=>by rw[ho]at e;cases e)]
   have hex:(execOp a.eval o).run P w= .ok (.value (.map (some w.heap.size))) {w with heap:=w.heap.push (.map #[] 0)} :=by
    simp only[execOp,ho,Option.map_none,Instr.makeMap,Sem.run_bind,run_newObj,Result.andThen_ok,Sem.run_pure]
   rw[hex,Oper.uponIn_value]
   have hle:η.le (η.put s.H.length (w.heap.size,0)):=Nam.le_put hfree
   refine hg.next _ _ (η.put s.H.length (w.heap.size,0)) φ _ _ hk ⟨hr.pin.trans (fun i hi=>Nam.put_other η _ (by omega)) hr.len,by simp;exact Nat.le_succ_of_le hr.len,by simpa using hnew,TRel.put (hr.tmps.mono hle) _ (fun _=>by simp[den,Nam.put_same]) (fun hf=>by cases hf),by rw[Act.put_defers'];exact hr.defers.mono hle⟩
  ·split at h
   ·refine⟨fun _=>?_,fun hf=>by cases hf⟩
    rw[fcP_eq]at h
    obtain⟨_,hk⟩:=h
    simp only[fcL_eq]at hk
    have hs1:=hr.sat.room 1
    have hn1:(s.H++List.replicate 1 none)[s.H.length]?=some none:=by simp
    have hfree:η s.H.length=none:=hs1.free fun o=>by rw[hn1];simp
    have hnew:=hs1.new (o:= .cmap []) (ob:= .map #[] 0) hn1 rfl (fun b hb=>hb.symm) (by simp[SObj.holds,mapObj,mesF])
    rw[List.set_append_right _ _ (Nat.le_refl _)]at hnew
    rw[Oper.semAt_eq _ _ _ (fun c' e=>by rw[ho]at e;cases e)]
    have hex:(execOp a.eval o).run P w= .ok (.value (.map (some w.heap.size))) {w with heap:=w.heap.push (.map #[] 0)} :=by
     simp only[execOp,ho,Option.map_none,Instr.makeMap,Sem.run_bind,run_newObj,Result.andThen_ok,Sem.run_pure]
    rw[hex,Oper.uponIn_value]
    have hle:η.le (η.put s.H.length (w.heap.size,0)):=Nam.le_put hfree
    refine hg.next _ _ (η.put s.H.length (w.heap.size,0)) φ _ _ hk ⟨hr.pin.trans (fun i hi=>Nam.put_other η _ (by omega)) hr.len,by simp;exact Nat.le_succ_of_le hr.len,by simpa using hnew,TRel.put (hr.tmps.mono hle) _ (fun _=>by simp[den,Nam.put_same]) (fun hf=>by cases hf),by rw[Act.put_defers'];exact hr.defers.mono hle⟩
   ·exact h.elim
  ·exact h.elim
 ·-- mapUpdate
  rename_i t m ix x ho
  split at h
  ·rename_i i cs v hm hix hx
   split at h
   ·rename_i ks n' F has n hints hi hmt
    refine⟨fun _=>?_,fun hf=>by cases hf⟩
    rw[fcP_eq]at h
    obtain⟨_,rfl,hl,hv,hk⟩:=h
    simp only[fcL_eq]at hk
    have hdm:=ldG_ok hr.sat hr.tmps hm rfl
    have hdk:=ldG_ok hr.sat hr.tmps hix rfl
    have hdx:=ldG_ok hr.sat hr.tmps hx rfl
    simp only[den,Option.map_eq_some_iff,Option.some.injEq]at hdm hdk hdx
    obtain⟨am,ham,hevm⟩:=hdm
    obtain⟨us,hus,hevk⟩:=hdk
    rw[intsOf_ok hints,denL_ints]at hus
    simp only[Option.some.injEq]at hus
    subst hus
    obtain⟨obj,hob,hmem⟩:=hr.sat.holds i _ am hi ham
    obtain⟨o',hmem',hrun⟩:=run_mapUpdate_memo (P:=P) (hE.memo t _ hmt) hob hmem hl hv
    rw[Oper.semAt_eq _ _ _ (fun c' e=>by rw[ho]at e;cases e)]
    have hex:(execOp a.eval o).run P w= .ok .skip {w with heap:=w.heap.setIfInBounds am.1 o'} :=by
     have hrun':=hrun
     unfold intsV at hrun'
     simp only[execOp,ho,←hevm,←hevk,←hdx,Sem.run_bind,hrun',Result.andThen_ok,Sem.run_pure]
    rw[hex,Oper.uponIn_skip]
    have hlt:am.1<w.heap.size:=(Array.getElem?_eq_some_iff.1 hob).1
    refine hg.next _ _ η φ _ _ hk ⟨hr.pin,by simpa using hr.len,?_,TRel.put hr.tmps _ (fun _=>rfl) (fun _=>rfl),by rw[Act.put_defers'];exact hr.defers⟩
    refine hr.sat.upd hi ham rfl (fun b hb=>hb) (by simp) (fun b hb=>?_) ⟨o',by simp[hlt],hmem'⟩
    exact Array.getElem?_setIfInBounds_ne (fun e=>hb e)
   ·exact h.elim
  ·rename_i i k v hm hix hx
   split at h
   ·rename_i c hi hcm
    refine⟨fun _=>?_,fun hf=>by cases hf⟩
    rw[fcP_eq]at h
    obtain⟨_,hk⟩:=h
    simp only[fcL_eq]at hk
    have hdm:=ldG_ok hr.sat hr.tmps hm rfl
    have hdk:=ldG_ok hr.sat hr.tmps hix rfl
    have hdx:=ldG_ok hr.sat hr.tmps hx rfl
    simp only[den,Option.map_eq_some_iff,Option.some.injEq]at hdm hdk hdx
    obtain⟨am,ham,hevm⟩:=hdm
    have hob:w.heap[am.1]?=some (mapObj c):=hr.sat.holds i _ am hi ham
    have hrun:=run_mapUpdate_cm (P:=P) (hE.cm t hcm) hob k v
    rw[Oper.semAt_eq _ _ _ (fun c' e=>by rw[ho]at e;cases e)]
    have hex:(execOp a.eval o).run P w= .ok .skip {w with heap:=w.heap.setIfInBounds am.1 (mapObj (aset c k v))} :=by
     simp only[execOp,ho,←hevm,←hdk,←hdx,Sem.run_bind,hrun,Result.andThen_ok,Sem.run_pure]
    rw[hex,Oper.uponIn_skip]
    have hlt:am.1<w.heap.size:=(Array.getElem?_eq_some_iff.1 hob).1
    refine hg.next _ _ η φ _ _ hk ⟨hr.pin,by simpa using hr.len,?_,TRel.put hr.tmps _ (fun _=>rfl) (fun _=>rfl),by rw[Act.put_defers'];exact hr.defers⟩
    refine hr.sat.upd hi ham rfl (fun b hb=>hb) (by simp) (fun b hb=>?_) ?_
    ·exact Array.getElem?_setIfInBounds_ne (fun e=>hb e)
    ·simp[SObj.holds,hlt]
   ·exact h.elim
  ·exact h.elim
 ·-- mapEntry
  rename_i t m ix ho
  split at h
  ·rename_i i k hm hix hcm
   split at h
   ·rename_i c hi
    refine⟨fun _=>?_,fun hf=>by cases hf⟩
    rw[fcP_eq]at h
    obtain⟨_,hk⟩:=h
    simp only[fcL_eq]at hk
    have hdm:=ldG_ok hr.sat hr.tmps hm rfl
    have hdk:=ldG_ok hr.sat hr.tmps hix rfl
    simp only[den,Option.map_eq_some_iff,Option.some.injEq]at hdm hdk
    obtain⟨am,ham,hevm⟩:=hdm
    have hob:w.heap[am.1]?=some (mapObj c):=hr.sat.holds i _ am hi ham
    have hrun:=run_mapEntry_cm (P:=P) (hE.cm t hcm) hob k
    rw[Oper.semAt_eq _ _ _ (fun c' e=>by rw[ho]at e;cases e)]
    have hex:(execOp a.eval o).run P w= .ok (.value (.tuple #[.int .i64 (aval c k),.int .i64 (apos c k)])) {w with heap:=w.heap.setIfInBounds am.1 (mapObj (aent c k))} :=by
     simp only[execOp,ho,←hevm,←hdk,Sem.run_bind,hrun,Result.andThen_ok,Sem.run_pure]
    rw[hex,Oper.uponIn_value]
    have hlt:am.1<w.heap.size:=(Array.getElem?_eq_some_iff.1 hob).1
    refine hg.next _ _ η φ _ _ hk ⟨hr.pin,by simpa using hr.len,?_,TRel.put hr.tmps _ (fun _=>by simp[den,denL]) (fun hf=>by cases hf),by rw[Act.put_defers'];exact hr.defers⟩
    refine hr.sat.upd hi ham rfl (fun b hb=>hb) (by simp) (fun b hb=>?_) ?_
    ·exact Array.getElem?_setIfInBounds_ne (fun e=>hb e)
    ·simp[SObj.holds,hlt]
   ·exact h.elim
  ·exact h.elim
 ·-- entryStore
  rename_i t m st x ho
  split at h
  ·rename_i i j v hm hst hx
   split at h
   ·rename_i c hi
    refine⟨fun _=>?_,fun hf=>by cases hf⟩
    rw[fcP_eq]at h
    obtain⟨_,n,rfl,hn,hk⟩:=h
    simp only[fcL_eq]at hk
    have hdm:=ldG_ok hr.sat hr.tmps hm rfl
    have hdk:=ldG_ok hr.sat hr.tmps hst rfl
    have hdx:=ldG_ok hr.sat hr.tmps hx rfl
    simp only[den,Option.map_eq_some_iff,Option.some.injEq]at hdm hdk hdx
    obtain⟨am,ham,hevm⟩:=hdm
    have hob:w.heap[am.1]?=some (mapObj c):=hr.sat.holds i _ am hi ham
    have hrun:=run_entryStore_cm (P:=P) (mt:=t) hob n hn v
    rw[Oper.semAt_eq _ _ _ (fun c' e=>by rw[ho]at e;cases e)]
    have hex:(execOp a.eval o).run P w= .ok .skip {w with heap:=w.heap.setIfInBounds am.1 (mapObj (aput c n v))} :=by
     simp only[execOp,ho,←hevm,←hdk,←hdx,Sem.run_bind,hrun,Result.andThen_ok,Sem.run_pure]
    rw[hex,Oper.uponIn_skip]
    have hlt:am.1<w.heap.size:=(Array.getElem?_eq_some_iff.1 hob).1
    refine hg.next _ _ η φ _ _ hk ⟨hr.pin,by simpa using hr.len,?_,TRel.put hr.tmps _ (fun _=>rfl) (fun _=>rfl),by rw[Act.put_defers'];exact hr.defers⟩
    refine hr.sat.upd hi ham rfl (fun b hb=>hb) (by simp) (fun b hb=>?_) ?_
    ·exact Array.getElem?_setIfInBounds_ne (fun e=>hb e)
    ·simp[SObj.holds,hlt]
   ·exact h.elim
  ·exact h.elim
 ·-- range
  rename_i t x ho
  split at h
  ·rename_i i hx hcm
   split at h
   ·rename_i c hi
    refine⟨fun _=>?_,fun hf=>by cases hf⟩
    rw[fcP_eq]at h
    obtain⟨_,hk⟩:=h
    simp only[fcL_eq]at hk
    have hdx:=ldG_ok hr.sat hr.tmps hx rfl
    simp only[den,Option.map_eq_some_iff]at hdx
    obtain⟨am,ham,hevx⟩:=hdx
    have hob:w.heap[am.1]?=some (mapObj c):=hr.sat.holds i _ am hi ham
    obtain⟨key,elem,hu,_,_⟩:=hE.cm t hcm
    have hu:(underlying t).run P w= .ok (.map key elem) w:=by simp[Go.underlying,hu]
    have hgm:(getObj am.1).run P w= .ok (.map (mesF c 0).toArray c.length) w:=MapKept.run_getObj_map (P:=P) hob
    have hs1:=hr.sat.room 1
    have hn1:(s.H++List.replicate 1 none)[s.H.length]?=some none:=by simp
    have hfree:η s.H.length=none:=hs1.free fun o=>by rw[hn1];simp
    have hil:i<s.H.length:=(List.getElem?_eq_some_iff.1 hi).1
    have hlt:am.1<w.heap.size:=(Array.getElem?_eq_some_iff.1 hob).1
    have hnew:=hs1.new (o:= .obj fun ob=>ob= .mapIter (some am.1) c.length #[] c.length) (ob:= .mapIter (some am.1) c.length #[] c.length) hn1 rfl (fun b hb=>hb.symm) ⟨_,by simp,rfl⟩
    rw[List.set_append_right _ _ (Nat.le_refl _)]at hnew
    simp only[Nat.sub_self,List.replicate_one,List.set_cons_zero]at hnew
    have hle:η.le (η.put s.H.length (w.heap.size,0)):=Nam.le_put hfree
    have hjoin:=hnew.join (i:=s.H.length) (j:=i) (oi:= .obj fun ob=>ob= .mapIter (some am.1) c.length #[] c.length) (oj:= .cmap c) (o':= .citer c none) (by simp) (Nam.put_same _ _ _) (by rw[List.getElem?_append_left hil];exact hi) (hle _ _ ham) rfl rfl (fun b=>b=w.heap.size∨b=am.1)
     (fun b hb=>hb.elim (fun e=> .inl e.symm) (fun e=> .inr e.symm)) ⟨rfl,IterAt.begin (.inl rfl) (.inr rfl) (by show am.1≠w.heap.size;omega) (by simp) (by rw[Array.getElem?_push];simp[Nat.ne_of_lt hlt];exact hob)⟩
    rw[Oper.semAt_eq _ _ _ (fun c' e=>by rw[ho]at e;cases e)]
    have hex:(execOp a.eval o).run P w= .ok (.value (.pointer (some ⟨w.heap.size,0,none⟩))) {w with heap:=w.heap.push (.mapIter (some am.1) c.length #[] c.length)} :=by
     simp only[execOp,ho,←hevx,Instr.range,Sem.run_bind,hu,hgm,run_newObj,Result.andThen_ok,Sem.run_pure]
    rw[hex,Oper.uponIn_value]
    have e:((s.H++[some (SObj.obj fun ob=>ob= .mapIter (some am.1) c.length #[] c.length)]).set i (some .dead)).set s.H.length (some (.citer c none))=(s.H.set i (some .dead))++[some (.citer c none)]:=by
     rw[List.set_append_left _ _ hil,List.set_append_right _ _ (by simp)]
     simp
    rw[e]at hjoin
    exact hg.next _ _ (η.put s.H.length (w.heap.size,0)) _ _ _ hk ⟨hr.pin.trans (fun i hi=>Nam.put_other η _ (by omega)) hr.len,by simp;exact Nat.le_succ_of_le hr.len,hjoin,TRel.put (hr.tmps.mono hle) _ (fun _=>by simp[den,Nam.put_same]) (fun hf=>by cases hf),by rw[Act.put_defers'];exact hr.defers.mono hle⟩
   ·exact h.elim
  ·exact h.elim
 ·-- next
  rename_i x str ho
  split at h
  ·rename_i i hx
   split at h
   ·rename_i left cur hi
    refine⟨fun _=>?_,fun hf=>by cases hf⟩
    rw[fcP_eq]at h
    obtain⟨_,hk0,hk1⟩:=h
    simp only[fcL_eq]at hk0 hk1
    have hdx:=ldG_ok hr.sat hr.tmps hx rfl
    simp only[den,Option.map_eq_some_iff]at hdx
    obtain⟨am,ham,hevx⟩:=hdx
    obtain⟨h0,hit⟩:am.2=0∧IterAt left cur am.1 (φ i) w:=hr.sat.holds i _ am hi ham
    have hev:a.eval x= .pointer (some ⟨am.1,0,none⟩):=by rw[←hevx,h0]
    rw[Oper.semAt_eq _ _ _ (fun c' e=>by rw[ho]at e;cases e)]
    rcases run_next_it (P:=P) hit o.type with⟨hl,hrun⟩|⟨r1,p,r2,w',hl,hrun,hsz,hoth,henv,hit'⟩
    ·have hex:(execOp a.eval o).run P w= .ok (.value (.tuple #[.bool false])) w:=by
      simp only[execOp,ho,hev,Sem.run_bind,hrun,Result.andThen_ok,Sem.run_pure]
     rw[hex,Oper.uponIn_value]
     exact hg.next _ _ η φ _ _ (hk0 hl) ⟨hr.pin,hr.len,hr.sat,TRel.put hr.tmps _ (fun _=>by simp[den,denL]) (fun hf=>by cases hf),by rw[Act.put_defers'];exact hr.defers⟩
    ·have hex:(execOp a.eval o).run P w= .ok (.value (.tuple #[.bool true,.int .i64 p.1,.int .i64 p.2])) w':=by
      simp only[execOp,ho,hev,Sem.run_bind,hrun,Result.andThen_ok,Sem.run_pure]
     rw[hex,Oper.uponIn_value]
     refine hg.next _ _ η φ _ _ (hk1 r1 p.1 p.2 r2 hl) ⟨hr.pin,by simpa using hr.len,?_,TRel.put hr.tmps _ (fun _=>by simp[den,denL]) (fun hf=>by cases hf),by rw[Act.put_defers'];exact hr.defers⟩
     refine hr.sat.upd hi ham rfl (fun b hb=>hb) hsz (fun b hb=>hoth b fun e=>hb ?_) ⟨h0,hit'⟩ henv
     subst e
     exact hit.1
   ·exact h.elim
  ·exact h.elim
 ·-- entry
  rename_i x ho
  split at h
  ·rename_i i hx
   split at h
   ·rename_i left k v hi
    refine⟨fun _=>?_,fun hf=>by cases hf⟩
    rw[fcP_eq]at h
    obtain⟨_,hk⟩:=h
    simp only[fcL_eq]at hk
    have hdx:=ldG_ok hr.sat hr.tmps hx rfl
    simp only[den,Option.map_eq_some_iff]at hdx
    obtain⟨am,ham,hevx⟩:=hdx
    obtain⟨h0,hit⟩:am.2=0∧IterAt left (some (k,v)) am.1 (φ i) w:=hr.sat.holds i _ am hi ham
    have hev:a.eval x= .pointer (some ⟨am.1,0,none⟩):=by rw[←hevx,h0]
    have hrun:=run_entry_it (P:=P) hit
    rw[Oper.semAt_eq _ _ _ (fun c' e=>by rw[ho]at e;cases e)]
    have hex:(execOp a.eval o).run P w= .ok (.value (.tuple #[.int .i64 k,.int .i64 v])) w:=by
     simp only[execOp,ho,hev,Sem.run_bind,hrun,Result.andThen_ok,Sem.run_pure]
    rw[hex,Oper.uponIn_value]
    exact hg.next _ _ η φ _ _ hk ⟨hr.pin,hr.len,hr.sat,TRel.put hr.tmps _ (fun _=>by simp[den,denL]) (fun hf=>by cases hf),by rw[Act.put_defers'];exact hr.defers⟩
   ·exact h.elim
  ·exact h.elim
 ·-- defer
  rename_i c ho
  split at h
  ·rename_i f hcal hca
   split at h
   ·rename_i g first cap hf
    refine⟨fun _=>?_,fun hf=>by cases hf⟩
    rw[fcL_eq]at h
    have hd:=ldG_ok hr.sat hr.tmps hf rfl
    simp only[den,Option.bind_eq_some_iff,Option.map_eq_some_iff]at hd
    obtain⟨fs,hfs,cs,hcs,hev⟩:=hd
    have hargs:c.args.map a.eval= #[]:=by apply Array.ext';simp[hca]
    have hround:(Fw none).round=none:=rfl
    rw[hround,Oper.semAt_none]
    simp only[execOp,ho,resolve,hcal,←hev,Deferred.ofValue,hargs,Sem.run_bind,Sem.run_pure,Result.andThen_ok,Oper.uponIn_defer]
    refine hg.next _ _ η φ _ _ h ⟨hr.pin,hr.len,hr.sat,TRel.put (a:={a with defers:=_::a.defers}) hr.tmps _ (fun _=>rfl) (fun hf=>by cases hf),?_⟩
    rw[Act.put_defers']
    have hdd:=hr.defers
    unfold DRel at hdd⊢
    simp[denD,hfs,hcs,hdd]
   ·exact h.elim
  ·rename_i f x hcal hca
   split at h
   ·rename_i g cap v hf hx
    refine⟨fun _=>?_,fun hf=>by cases hf⟩
    rw[fcL_eq]at h
    have hd:=ldG_ok hr.sat hr.tmps hf rfl
    have hdx:=ldG_ok hr.sat hr.tmps hx rfl
    simp only[den,denL,Option.bind_some,Option.map_eq_some_iff]at hd
    obtain⟨cs,hcs,hev⟩:=hd
    have hargs:c.args.map a.eval= #[a.eval x]:=by apply Array.ext';simp[hca]
    have hround:(Fw none).round=none:=rfl
    rw[hround,Oper.semAt_none]
    simp only[execOp,ho,resolve,hcal,←hev,Deferred.ofValue,hargs,Sem.run_bind,Sem.run_pure,Result.andThen_ok,Oper.uponIn_defer]
    refine hg.next _ _ η φ _ _ h ⟨hr.pin,hr.len,hr.sat,TRel.put (a:={a with defers:=_::a.defers}) hr.tmps _ (fun _=>rfl) (fun hf=>by cases hf),?_⟩
    rw[Act.put_defers']
    have hdd:=hr.defers
    unfold DRel at hdd⊢
    simp[denD,denL,hdx,hcs,hdd]
   ·exact h.elim
  ·exact h.elim
 ·exact h.elim
theorem evGm_ok(hg:Goes n η0 w0 Ef K next Q){g:GShape}{o:Oper}{G:Option Bool}{s:St}{ob:List Prop}(hE:E.ok P)(hgm:isGm E s.T s.H o.op=some g)(h:evGm g o G s ob K){η:Nam}{φ:Feet}{a:Act}{w:World}(hr:Rel n η0 w0 Ef s η φ a w):
  (G.getD true=true→o.uponIn (Fw r) 0 P a next Q ((o.semAt (Fw r).round a.eval).run P w))∧(G.getD true=false→next (a.put o.dst undef) w):=by
 unfold evGm at h
 split at h
 ·-- lookup
  rename_i t x ix cok ho
  have ht:E.gm t=some g:=by rw[ho]at hgm;exact hgm
  split at h
  ·rename_i i kx hx hix
   split at h
   ·rename_i b ks g' m hdat hi
    refine⟨fun _=>?_,fun hf=>by cases hf⟩
    rw[fcP_eq]at h
    obtain⟨_,rfl,rfl,hl,hk⟩:=h
    have hdx:=ldG_ok hr.sat hr.tmps hx rfl
    have hdk:=ldG_ok hr.sat hr.tmps hix rfl
    rw[datOf_ok hdat,Option.some.injEq]at hdk
    simp only[den,Option.map_eq_some_iff]at hdx
    obtain⟨am,ham,hevx⟩:=hdx
    obtain⟨hm,hob⟩:GLens g' m∧w.heap[am.1]?=some (gmapObj g' m):=hr.sat.holds i _ am hi ham
    have hrun:=run_lookup_g (P:=P) (hE.gm t _ ht) hm hob hl cok
    have hk:=AllL_at hk (gval g'.vn m ks) (gval_len hm ks) rfl
    rw[fcV_eq,fcL_eq]at hk
    rw[Oper.semAt_eq _ _ _ (fun c' e=>by rw[ho]at e;cases e)]
    have hex:(execOp a.eval o).run P w= .ok (.value (if cok then .tuple #[datV g'.vb (gval g'.vn m ks),.bool (ghas m ks)]else datV g'.vb (gval g'.vn m ks))) w:=by
     simp only[execOp,ho,←hevx,←hdk,Sem.run_bind,hrun,Result.andThen_ok,Sem.run_pure]
    rw[hex,Oper.uponIn_value]
    refine hg.next _ _ η φ _ _ hk ⟨hr.pin,hr.len,hr.sat,TRel.put hr.tmps _ (fun _=>?_) (fun hf=>by cases hf),by rw[Act.put_defers'];exact hr.defers⟩
    cases cok<;>simp[den,denL,datS_den]
   ·exact h.elim
  ·exact h.elim
 ·-- makeMap
  rename_i t ho
  split at h
  ·refine⟨fun _=>?_,fun hf=>by cases hf⟩
   rw[fcP_eq]at h
   obtain⟨_,hk⟩:=h
   simp only[fcL_eq]at hk
   have hs1:=hr.sat.room 1
   have hn1:(s.H++List.replicate 1 none)[s.H.length]?=some none:=by simp
   have hfree:η s.H.length=none:=hs1.free fun o=>by rw[hn1];simp
   have hnew:=hs1.new (o:= .gmap g []) (ob:= .map #[] 0) hn1 rfl (fun b hb=>hb.symm) (by simp[SObj.holds,gmapObj,mesG,GLens])
   rw[List.set_append_right _ _ (Nat.le_refl _)]at hnew
   rw[Oper.semAt_eq _ _ _ (fun c' e=>by rw[ho]at e;cases e)]
   have hex:(execOp a.eval o).run P w= .ok (.value (.map (some w.heap.size))) {w with heap:=w.heap.push (.map #[] 0)} :=by
    simp only[execOp,ho,Option.map_none,Instr.makeMap,Sem.run_bind,run_newObj,Result.andThen_ok,Sem.run_pure]
   rw[hex,Oper.uponIn_value]
   have hle:η.le (η.put s.H.length (w.heap.size,0)):=Nam.le_put hfree
   refine hg.next _ _ (η.put s.H.length (w.heap.size,0)) φ _ _ hk ⟨hr.pin.trans (fun i hi=>Nam.put_other η _ (by omega)) hr.len,by simp;exact Nat.le_succ_of_le hr.len,by simpa using hnew,TRel.put (hr.tmps.mono hle) _ (fun _=>by simp[den,Nam.put_same]) (fun hf=>by cases hf),by rw[Act.put_defers'];exact hr.defers.mono hle⟩
  ·exact h.elim
 ·-- mapUpdate
  rename_i t m ix x ho
  have ht:E.gm t=some g:=by rw[ho]at hgm;exact hgm
  split at h
  ·rename_i i kx vx hm hix hx
   split at h
   ·rename_i b ks b2 vs g' c hdk0 hdv0 hi
    refine⟨fun _=>?_,fun hf=>by cases hf⟩
    rw[fcP_eq]at h
    obtain⟨_,rfl,⟨rfl,hl⟩,⟨rfl,hl2⟩,hk⟩:=h
    simp only[fcL_eq]at hk
    have hdm:=ldG_ok hr.sat hr.tmps hm rfl
    have hdk:=ldG_ok hr.sat hr.tmps hix rfl
    have hdx:=ldG_ok hr.sat hr.tmps hx rfl
    rw[datOf_ok hdk0,Option.some.injEq]at hdk
    rw[datOf_ok hdv0,Option.some.injEq]at hdx
    simp only[den,Option.map_eq_some_iff]at hdm
    obtain⟨am,ham,hevm⟩:=hdm
    obtain⟨hlen,hob⟩:GLens g' c∧w.heap[am.1]?=some (gmapObj g' c):=hr.sat.holds i _ am hi ham
    have hrun:=run_mapUpdate_g (P:=P) (hE.gm t _ ht) hlen hob hl vs
    rw[Oper.semAt_eq _ _ _ (fun c' e=>by rw[ho]at e;cases e)]
    have hex:(execOp a.eval o).run P w= .ok .skip {w with heap:=w.heap.setIfInBounds am.1 (gmapObj g' (gset c ks vs))} :=by
     simp only[execOp,ho,←hevm,←hdk,←hdx,Sem.run_bind,hrun,Result.andThen_ok,Sem.run_pure]
    rw[hex,Oper.uponIn_skip]
    have hlt:am.1<w.heap.size:=(Array.getElem?_eq_some_iff.1 hob).1
    refine hg.next _ _ η φ _ _ hk ⟨hr.pin,by simpa using hr.len,?_,TRel.put hr.tmps _ (fun _=>rfl) (fun _=>rfl),by rw[Act.put_defers'];exact hr.defers⟩
    refine hr.sat.upd hi ham rfl (fun b hb=>hb) (by simp) (fun b hb=>?_) ?_
    ·exact Array.getElem?_setIfInBounds_ne (fun e=>hb e)
    ·exact⟨gset_len hlen hl hl2,by simp[hlt]⟩
   ·exact h.elim
  ·exact h.elim
 ·-- range
  rename_i t x ho
  have ht:E.gm t=some g:=by rw[ho]at hgm;exact hgm
  split at h
  ·rename_i i hx
   split at h
   ·rename_i g' c hi
    refine⟨fun _=>?_,fun hf=>by cases hf⟩
    rw[fcP_eq]at h
    obtain⟨_,hk⟩:=h
    simp only[fcL_eq]at hk
    have hdx:=ldG_ok hr.sat hr.tmps hx rfl
    simp only[den,Option.map_eq_some_iff]at hdx
    obtain⟨am,ham,hevx⟩:=hdx
    obtain⟨hlen,hob⟩:GLens g' c∧w.heap[am.1]?=some (gmapObj g' c):=hr.sat.holds i _ am hi ham
    obtain⟨key,elem,hu,_,_⟩:=hE.gm t _ ht
    have hu:(underlying t).run P w= .ok (.map key elem) w:=by simp[Go.underlying,hu]
    have hgm:(getObj am.1).run P w= .ok (.map (mesG g' c 0).toArray c.length) w:=MapKept.run_getObj_map (P:=P) hob
    have hs1:=hr.sat.room 1
    have hn1:(s.H++List.replicate 1 none)[s.H.length]?=some none:=by simp
    have hfree:η s.H.length=none:=hs1.free fun o=>by rw[hn1];simp
    have hil:i<s.H.length:=(List.getElem?_eq_some_iff.1 hi).1
    have hlt:am.1<w.heap.size:=(Array.getElem?_eq_some_iff.1 hob).1
    have hnew:=hs1.new (o:= .obj fun ob=>ob= .mapIter (some am.1) c.length #[] c.length) (ob:= .mapIter (some am.1) c.length #[] c.length) hn1 rfl (fun b hb=>hb.symm) ⟨_,by simp,rfl⟩
    rw[List.set_append_right _ _ (Nat.le_refl _)]at hnew
    simp only[Nat.sub_self,List.replicate_one,List.set_cons_zero]at hnew
    have hle:η.le (η.put s.H.length (w.heap.size,0)):=Nam.le_put hfree
    have hjoin:=hnew.join (i:=s.H.length) (j:=i) (oi:= .obj fun ob=>ob= .mapIter (some am.1) c.length #[] c.length) (oj:= .gmap g' c) (o':= .giter g' c none) (by simp) (Nam.put_same _ _ _) (by rw[List.getElem?_append_left hil];exact hi) (hle _ _ ham) rfl rfl (fun b=>b=w.heap.size∨b=am.1)
     (fun b hb=>hb.elim (fun e=> .inl e.symm) (fun e=> .inr e.symm)) ⟨rfl,IterG.begin hlen (.inl rfl) (.inr rfl) (by show am.1≠w.heap.size;omega) (by simp) (by rw[Array.getElem?_push];simp[Nat.ne_of_lt hlt];exact hob)⟩
    rw[Oper.semAt_eq _ _ _ (fun c' e=>by rw[ho]at e;cases e)]
    have hex:(execOp a.eval o).run P w= .ok (.value (.pointer (some ⟨w.heap.size,0,none⟩))) {w with heap:=w.heap.push (.mapIter (some am.1) c.length #[] c.length)} :=by
     simp only[execOp,ho,←hevx,Instr.range,Sem.run_bind,hu,hgm,run_newObj,Result.andThen_ok,Sem.run_pure]
    rw[hex,Oper.uponIn_value]
    have e:((s.H++[some (SObj.obj fun ob=>ob= .mapIter (some am.1) c.length #[] c.length)]).set i (some .dead)).set s.H.length (some (.giter g' c none))=(s.H.set i (some .dead))++[some (.giter g' c none)]:=by
     rw[List.set_append_left _ _ hil,List.set_append_right _ _ (by simp)]
     simp
    rw[e]at hjoin
    exact hg.next _ _ (η.put s.H.length (w.heap.size,0)) _ _ _ hk ⟨hr.pin.trans (fun i hi=>Nam.put_other η _ (by omega)) hr.len,by simp;exact Nat.le_succ_of_le hr.len,hjoin,TRel.put (hr.tmps.mono hle) _ (fun _=>by simp[den,Nam.put_same]) (fun hf=>by cases hf),by rw[Act.put_defers'];exact hr.defers.mono hle⟩
   ·exact h.elim
  ·exact h.elim
 ·-- next
  rename_i x str ho
  split at h
  ·rename_i i hx
   split at h
   ·rename_i g' left cur hi
    refine⟨fun _=>?_,fun hf=>by cases hf⟩
    rw[fcP_eq]at h
    obtain⟨_,hk0,hk1⟩:=h
    simp only[fcL_eq]at hk0
    have hdx:=ldG_ok hr.sat hr.tmps hx rfl
    simp only[den,Option.map_eq_some_iff]at hdx
    obtain⟨am,ham,hevx⟩:=hdx
    obtain⟨h0,hit⟩:am.2=0∧IterG g' left cur am.1 (φ i) w:=hr.sat.holds i _ am hi ham
    have hev:a.eval x= .pointer (some ⟨am.1,0,none⟩):=by rw[←hevx,h0]
    rw[Oper.semAt_eq _ _ _ (fun c' e=>by rw[ho]at e;cases e)]
    rcases run_next_g (P:=P) hit o.type with⟨hl,hrun⟩|⟨r1,p,r2,w',hl,hrun,hsz,hoth,henv,hit'⟩
    ·have hex:(execOp a.eval o).run P w= .ok (.value (.tuple #[.bool false])) w:=by
      simp only[execOp,ho,hev,Sem.run_bind,hrun,Result.andThen_ok,Sem.run_pure]
     rw[hex,Oper.uponIn_value]
     exact hg.next _ _ η φ _ _ (hk0 hl) ⟨hr.pin,hr.len,hr.sat,TRel.put hr.tmps _ (fun _=>by simp[den,denL]) (fun hf=>by cases hf),by rw[Act.put_defers'];exact hr.defers⟩
    ·have hex:(execOp a.eval o).run P w= .ok (.value (.tuple #[.bool true,datV g'.kb p.1,datV g'.vb p.2])) w':=by
      simp only[execOp,ho,hev,Sem.run_bind,hrun,Result.andThen_ok,Sem.run_pure]
     rw[hex,Oper.uponIn_value]
     have hp:=hit.2.1 p (by rw[hl];simp)
     have hk:=AllL_at (AllL_at (hk1 r1 r2) p.1 hp.1) p.2 hp.2 hl
     simp only[fcL_eq]at hk
     refine hg.next _ _ η φ _ _ hk ⟨hr.pin,by simpa using hr.len,?_,TRel.put hr.tmps _ (fun _=>by simp[den,denL,datS_den]) (fun hf=>by cases hf),by rw[Act.put_defers'];exact hr.defers⟩
     refine hr.sat.upd hi ham rfl (fun b hb=>hb) hsz (fun b hb=>hoth b fun e=>hb ?_) ⟨h0,hit'⟩ henv
     subst e
     exact hit.1
   ·exact h.elim
  ·exact h.elim
 ·-- entry
  rename_i x ho
  split at h
  ·rename_i i hx
   split at h
   ·rename_i g' left k v hi
    refine⟨fun _=>?_,fun hf=>by cases hf⟩
    rw[fcP_eq]at h
    obtain⟨_,hk⟩:=h
    simp only[fcL_eq]at hk
    have hdx:=ldG_ok hr.sat hr.tmps hx rfl
    simp only[den,Option.map_eq_some_iff]at hdx
    obtain⟨am,ham,hevx⟩:=hdx
    obtain⟨h0,hit⟩:am.2=0∧IterG g' left (some (k,v)) am.1 (φ i) w:=hr.sat.holds i _ am hi ham
    have hev:a.eval x= .pointer (some ⟨am.1,0,none⟩):=by rw[←hevx,h0]
    have hrun:=run_entry_g (P:=P) hit
    rw[Oper.semAt_eq _ _ _ (fun c' e=>by rw[ho]at e;cases e)]
    have hex:(execOp a.eval o).run P w= .ok (.value (.tuple #[datV g'.kb k,datV g'.vb v])) w:=by
     simp only[execOp,ho,hev,Sem.run_bind,hrun,Result.andThen_ok,Sem.run_pure]
    rw[hex,Oper.uponIn_value]
    exact hg.next _ _ η φ _ _ hk ⟨hr.pin,hr.len,hr.sat,TRel.put hr.tmps _ (fun _=>by simp[den,denL,datS_den]) (fun hf=>by cases hf),by rw[Act.put_defers'];exact hr.defers⟩
   ·exact h.elim
  ·exact h.elim
 ·exact h.elim
theorem evSp_ok(hE:E.ok P)(hg:Goes n η0 w0 Ef K next Q){o:Oper}{G:Option Bool}{s:St}{ob:List Prop}(h:evSp E P r o G s ob K){η:Nam}{φ:Feet}{a:Act}{w:World}(hr:Rel n η0 w0 Ef s η φ a w):
  (G.getD true=true→o.uponIn (Fw r) 0 P a next Q ((o.semAt (Fw r).round a.eval).run P w))∧(G.getD true=false→next (a.put o.dst undef) w):=by
 unfold evSp at h;split at h
 ·rename_i g hgm;exact evGm_ok hg hE hgm h hr
 ·exact evSq_ok hE hg h hr
theorem selV_ok{η:Nam}{c:Bool}{x y:SV}{u:Value}(h1:c=true→den η x=some u)(h2:c=false→den η y=some u):den η (selV c x y)=some u:=by
 cases c with
 |true=>rw[selV_true];exact h1 rfl
 |false=>rw[selV_false];exact h2 rfl
theorem evOp_ok(hE:E.ok P)(hK:Good K)(hg:Goes n η0 w0 Ef K next Q){ops:List Oper}{i:Nat}{o:Oper}(hi:ops[i]?=some o){s:St}{ob:List Prop}(h:evOp E P r ops o s ob K){η:Nam}{φ:Feet}{a:Act}{w:World}(hr:Rel n η0 w0 Ef s η φ a w):
  wpOpIn (Fw r) 0 P ops.toArray Q i next a w:=by
 unfold evOp at h
 split at h
 ·exact h.elim
 ·rename_i G hG
  have hw:=guardOf_ok hG hr.tmps
  -- what is to be shown, by whether it is carried out
  suffices hmain:(G.getD true=true→o.uponIn (Fw r) 0 P a next Q ((o.semAt (Fw r).round a.eval).run P w))∧(G.getD true=false→next (a.put o.dst undef) w)by
   unfold wpOpIn
   simp only[List.getElem?_toArray,hi]
   rw[hw]
   split
   ·rename_i ht;exact⟨fun _ _=>trivial,hmain.1 ht⟩
   ·rename_i ht;exact⟨fun _ _=>trivial,hmain.2 (by simpa using ht)⟩
  split at h
  ·-- pick
   rename_i c x y hp
   have ho:o.op= .pick c x y:=by
    unfold pickOf at hp
    split at hp
    ·rename_i _ _ _ e
     simp only[Option.some.injEq,Prod.mk.injEq]at hp
     obtain⟨rfl,rfl,rfl⟩:=hp
     exact e
    ·cases hp
   split at h
   ·rename_i gc cv ga av gb bv hc hx hy
    rw[fcV_eq,fcL_eq,fcP_eq]at h
    obtain⟨h1,h2,h3,_⟩:=hK _ _ _ h
    refine⟨fun ht=>?_,fun hf=>?_⟩
    ·have hdc:=ldG_ok hr.sat hr.tmps hc (under_ok h1 ht)
     simp only[den,Option.some.injEq]at hdc
     rw[Oper.semAt_eq _ _ _ (fun c' e=>by rw[ho]at e;cases e)]
     simp only[execOp,ho,←hdc,asBool,Sem.run_bind,Sem.run_pure,Result.andThen_ok,Oper.uponIn_value]
     refine hg.next _ _ η φ _ _ h ⟨hr.pin,hr.len,hr.sat,TRel.put hr.tmps _ (fun _=>selV_ok (fun hcv=>?_) (fun hcv=>?_)) (fun hf=>by rw[ht]at hf;cases hf),by rw[Act.put_defers'];exact hr.defers⟩
     ·rw[if_pos hcv];exact ldG_ok hr.sat hr.tmps hx (under_ok h2 ht hcv)
     ·rw[if_neg (by simp[hcv])];exact ldG_ok hr.sat hr.tmps hy (under_ok h3 ht hcv)
    ·exact hg.next _ _ η φ _ _ h ⟨hr.pin,hr.len,hr.sat,TRel.put hr.tmps _ (fun ht=>by rw[hf]at ht;cases ht) (fun _=>rfl),by rw[Act.put_defers'];exact hr.defers⟩
   ·exact h.elim
  ·split at h
   ·-- a plain operation
    rename_i q hq
    have hs1:=hr.sat.room 1
    have hn1:(s.H++List.replicate 1 none)[s.H.length]?=some none:=by simp
    have hsem:o.semAt (Fw r).round a.eval=execOp a.eval o:=Oper.semAt_eq _ _ _ (fun c e=>by rw[e]at hq;simp[ev1]at hq)
    -- the machine's step, wherever what is owed holds
    have step:G.getD true=true→(∀p∈gObs G s.T s.H o.op.operands.toList,p)→(∀p∈q.ob,p)→Gives P (execOp a.eval o) q η φ (s.H++List.replicate 1 none) s.H.length w0 Ef w:=fun ht h1 h2=>
     ev1_ok hE hq h2 hs1 hn1 (ldv_den hr ht h1)
    have fin:G.getD true=true→(∀p∈gObs G s.T s.H o.op.operands.toList,p)→(∀p∈q.ob,p)→ ∀(H':SHeap) (g:Option Bool) (ob':List Prop),g.getD true=true→
      (∀η' w',Sat η' φ (q.heap (s.H++List.replicate 1 none) s.H.length) w0 Ef w'→Sat η' φ H' w0 Ef w')→s.H.length≤H'.length→K .normal ⟨putT s.T o.dst (some (g,q.v)),H',s.D⟩ ob'→
      o.uponIn (Fw r) 0 P a next Q ((o.semAt (Fw r).round a.eval).run P w):=by
     intro ht h1 h2 H' g ob' hgg hH hlen hk
     obtain⟨nx,v,w',η',hrun,hnx,hv,hle,hpin,hs,_⟩:=step ht h1 h2
     rw[hsem,hrun]
     have hnext:next (a.put o.dst v) w':=hg.next _ _ η' φ _ _ hk ⟨hr.pin.trans (fun i hi=>hpin i (by omega)) hr.len,Nat.le_trans hr.len hlen,hH _ _ hs,TRel.put (hr.tmps.mono hle) _ (fun _=>hv) (fun hf=>by rw[hgg]at hf;cases hf),by rw[Act.put_defers'];exact hr.defers.mono hle⟩
     rcases hnx with rfl|⟨rfl,rfl⟩
     ·exact hnext
     ·exact hnext
    split at h
    ·-- nothing is written
     rename_i G' hwr hnw
     rw[fcV_eq,fcL_eq,fcP_eq]at h
     have hob:=AllP_iff.1 (hK _ _ _ h)
     refine⟨fun ht=>fin ht (fun p hp=>hob p (by simp[hp])) (fun p hp=>under_ok (hob (under _ p) (List.mem_append_left _ (List.mem_append_right _ (List.mem_map.2 ⟨p,hp,rfl⟩)))) ht) s.H _ _ ht (fun η' w' hs=>?_) (Nat.le_refl _) h,fun hf=>?_⟩
     ·simp only[Res.heap,hwr,hnw]at hs;exact hs.trim
     ·exact hg.next _ _ η φ _ _ h ⟨hr.pin,hr.len,hr.sat,TRel.put hr.tmps _ (fun ht=>by rw[hf]at ht;cases ht) (fun _=>rfl),by rw[Act.put_defers'];exact hr.defers⟩
    ·-- a block is written
     rename_i j x hwr hnw
     split at h
     ·rename_i hj
      rw[fcV_eq,fcL_eq,fcO_eq,fcL_eq,fcP_eq]at h
      have hob:=AllP_iff.1 (hK _ _ _ h)
      have hj':j<s.H.length:=by simpa using hj
      refine⟨fun ht=>fin ht (fun p hp=>hob p (by simp[hp])) (fun p hp=>hob p (by simp[hp])) _ none _ rfl (fun η' w' hs=>?_) (by simp) h,fun hf=>by cases hf⟩
      simp only[Res.heap,hwr,hnw]at hs
      rw[List.set_append_left _ _ hj']at hs
      exact hs.trim
     ·exact h.elim
    ·-- a new block
     rename_i x hwr hnw
     rw[fcV_eq,fcL_eq,fcO_eq,fcL_eq,fcP_eq]at h
     have hob:=AllP_iff.1 (hK _ _ _ h)
     refine⟨fun ht=>fin ht (fun p hp=>hob p (by simp[hp])) (fun p hp=>hob p (by simp[hp])) _ none _ rfl (fun η' w' hs=>?_) (by simp) h,fun hf=>by cases hf⟩
     simp only[Res.heap,hwr,hnw]at hs
     rw[List.set_append_right _ _ (Nat.le_refl _)]at hs
     simpa using hs
    ·-- a block is written, under a guard
     rename_i j x g hwr hnw
     split at h
     ·rename_i hj
      rw[fcP_eq]at h
      obtain⟨hob,hk1,hk0⟩:=h
      have hob:=AllP_iff.1 hob
      have hj':j<s.H.length:=by simpa using hj
      refine⟨fun ht=>?_,fun hf=>?_⟩
      ·have hk:=hk1 ht
       rw[fcV_eq,fcL_eq,fcO_eq,fcL_eq]at hk
       refine fin ht (fun p hp=>hob p (by simp[hp])) (fun p hp=>under_ok (hob (under _ p) (List.mem_append_left _ (List.mem_append_right _ (List.mem_map.2 ⟨p,hp,rfl⟩)))) ht) _ none _ rfl (fun η' w' hs=>?_) (by simp) hk
       simp only[Res.heap,hwr,hnw]at hs
       rw[List.set_append_left _ _ hj']at hs
       exact hs.trim
      ·have hk:=hk0 hf
       rw[fcL_eq]at hk
       exact hg.next _ _ η φ _ _ hk ⟨hr.pin,hr.len,hr.sat,TRel.put hr.tmps _ (fun ht=>by cases ht) (fun _=>rfl),by rw[Act.put_defers'];exact hr.defers⟩
     ·exact h.elim
    ·-- a new block, under a guard
     rename_i x g hwr hnw
     rw[fcP_eq]at h
     obtain⟨hob,hk1,hk0⟩:=h
     have hob:=AllP_iff.1 hob
     refine⟨fun ht=>?_,fun hf=>?_⟩
     ·have hk:=hk1 ht
      rw[fcV_eq,fcL_eq,fcO_eq,fcL_eq]at hk
      refine fin ht (fun p hp=>hob p (by simp[hp])) (fun p hp=>under_ok (hob (under _ p) (List.mem_append_left _ (List.mem_append_right _ (List.mem_map.2 ⟨p,hp,rfl⟩)))) ht) _ none _ rfl (fun η' w' hs=>?_) (by simp) hk
      simp only[Res.heap,hwr,hnw]at hs
      rw[List.set_append_right _ _ (Nat.le_refl _)]at hs
      simpa using hs
     ·have hk:=hk0 hf
      rw[fcL_eq]at hk
      exact hg.next _ _ η φ _ _ hk ⟨hr.pin,hr.len,hr.sat,TRel.put hr.tmps _ (fun ht=>by cases ht) (fun _=>rfl),by rw[Act.put_defers'];exact hr.defers⟩
    ·exact h.elim
   ·exact evSp_ok hE hg h hr
end
end Go.Sy
