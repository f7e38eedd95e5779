/-
  Parts: SyC, SyG.
-/
import Derived.MapKept
import Derived.Maps.RangeRun
set_option linter.unusedVariables false
set_option linter.unusedSimpArgs false
/-
 SyC: maps whose whole content is known, keys and elements numbers; and a range over one of them. No program is named.
-/
namespace Go.Sy
theorem aN{a b:Prop}(h:a)(h':b):a∧b:=And.intro h h'
theorem tFx{P:Prop}(h:true=false):P:=Bool.noConfusion h
theorem fTx{P:Prop}(h:false=true):P:=Bool.noConfusion h
theorem tU:True:=trivial
theorem qZ0{P:Prop}(h:P:=by repeat' first|exact tU|exact rfl|exact fun _ _=>rfl|exact Or.inl rfl|refine aN ?_ ?_):P:=h
theorem qZ1{P:Prop}(h:P:=by repeat' first|exact tU|exact rfl|exact congrArg (SV.int .i64) (Int.natCast_succ _).symm|refine aN ?_ ?_):P:=h
theorem qZ2{P:Prop}(h:P:=by repeat' first|exact tU|exact rfl|exact congrArg (SV.int .i64) (Int.natCast_succ _).symm|exact congrArg (SV.int .u64) (Int.natCast_succ _).symm|refine aN ?_ ?_):P:=h
theorem qZ3{P:Prop}(h:P:=by repeat' first|exact tU|exact rfl|exact fun _ _=>rfl|exact fun _ _ _ _=>rfl|exact Or.inl rfl|exact Or.inr rfl|refine aN ?_ ?_):P:=h
theorem qM0{P:Prop}(h:P:=by first|omega|exact u0 (by omega)|exact u1 (by omega)|exact u1 ⟨by omega,by omega⟩|exact unH (by omega)|exact fun hh=>hh|exact fun hh=>absurd hh (by decide)|exact fun hh=>congrArg not hh|exact fun hh=>tFx hh|exact fun hh=>fTx hh):P:=h
def mesF:List (Int×Int)→Nat→List MapEntry
 |[],_=>[]
 |p::l,i=>{key:= .int .i64 p.1,val:= .int .i64 p.2,born:=i} ::mesF l (i+1)
def mapObj(m:List (Int×Int)):Obj:= .map (mesF m 0).toArray m.length
theorem mesF_length: ∀(m:List (Int×Int)) (i:Nat),(mesF m i).length=m.length
 |[],_=>rfl
 |_::l,i=>by simp[mesF,mesF_length l]
theorem mesF_get: ∀(m:List (Int×Int)) (i j:Nat),(mesF m i)[j]?=(m[j]?).map fun p=>({key:= .int .i64 p.1,val:= .int .i64 p.2,born:=i+j} :MapEntry)
 |[],_,_=>by simp[mesF]
 |p::l,i,0=>by simp[mesF]
 |p::l,i,j+1=>by simp[mesF,mesF_get l,Nat.add_assoc,Nat.add_comm 1]
theorem mesF_app: ∀(m:List (Int×Int)) (p:Int×Int) (i:Nat),mesF (m++[p]) i=mesF m i++[{key:= .int .i64 p.1,val:= .int .i64 p.2,born:=i+m.length}]
 |[],p,i=>by simp[mesF]
 |q::l,p,i=>by simp[mesF,mesF_app l,Nat.add_assoc,Nat.add_comm 1]
theorem mesF_set(m:List (Int×Int))(i j:Nat)(p:Int×Int):mesF (m.set j p) i=(mesF m i).set j {key:= .int .i64 p.1,val:= .int .i64 p.2,born:=i+j} :=by
 apply List.ext_getElem?;intro k;rw[mesF_get,List.getElem?_set,List.getElem?_set,mesF_length,mesF_get];by_cases hjk:j=k
 ·subst hjk;by_cases hl:j<m.length<;>simp[hl]
 ·simp[hjk]
def aget:List (Int×Int)→Int→Option (Nat×Int)
 |[],_=>none
 |(a,b)::l,k=>if a=k then some (0,b)else match aget l k with
  |some (j,v)=>some (j+1,v)
  |none=>none
def aval(m:List (Int×Int))(k:Int):Int:=match aget m k with|some (_,v)=>v|none=>0
def ahas(m:List (Int×Int))(k:Int):Bool:=match aget m k with|some _=>true|none=>false
def apos(m:List (Int×Int))(k:Int):Nat:=match aget m k with|some (j,_)=>j|none=>m.length
def aset(m:List (Int×Int))(k v:Int):List (Int×Int):=
 match aget m k with
 |some (j,_)=>m.set j (k,v)
 |none=>m++[(k,v)]
def aent(m:List (Int×Int))(k:Int):List (Int×Int):=match aget m k with|some _=>m|none=>m++[(k,0)]
def aput(m:List (Int×Int))(j:Nat)(v:Int):List (Int×Int):=match m[j]? with|some (k,_)=>m.set j (k,v)|none=>m
def CMapTy(P:Program)(mt:Nat):Prop:=
 ∃key elem,P.underlying mt=some (.map key elem)∧P.underlying key=some (.int .i64)∧ ∀w,(zeroValue elem).run P w= .ok (.int .i64 0) w
theorem aget_spec{k:Int} : ∀{m:List (Int×Int)},(aget m k=none∧ ∀p∈m,p.1≠k)∨ ∃j v,aget m k=some (j,v)∧m[j]?=some (k,v)
 |[]=> .inl ⟨rfl,by simp⟩
 |(a,b)::l=>by
  by_cases h:a=k
  ·subst h;exact .inr ⟨0,b,by simp[aget],rfl⟩
  ·rcases aget_spec (k:=k) (m:=l)with⟨h1,h2⟩|⟨j,v,h1,h2⟩
   ·refine .inl ⟨by simp[aget,h,h1],fun p hp=>?_⟩;rcases List.mem_cons.1 hp with rfl|hp
    ·exact h
    ·exact h2 p hp
   ·exact .inr ⟨j+1,v,by simp[aget,h,h1],by simpa using h2⟩
theorem findNow_cm{k:Int} : ∀{m:List (Int×Int)} {b i:Nat},Instr.findNow (.int .i64) (.int .i64 k) (mesF m b) i=some ((aget m k).map fun q=>(i+q.1,Value.int .i64 q.2))
 |[],_,_=>rfl
 |(a,c)::m,b,i=>by
  have ih:=findNow_cm (k:=k) (m:=m) (b:=b+1) (i:=i+1);simp only[mesF,Instr.findNow,Instr.sameNow,if_true];by_cases hk:a=k
  ·subst hk;simp[aget]
  ·have hk':(k==a)=false:=by simpa using fun e=>hk e.symm
   simp only[hk',ih,aget,if_neg hk];cases aget m k with
   |none=>rfl
   |some q=>simp;omega
section
variable {P:Program} {mt:Nat}
theorem run_findKey_cm{key:Nat}(hd:P.underlying key=some (.int .i64))(m:List (Int×Int))(k:Int)(w:World):
  (Instr.findKey key (.int .i64 k) (mesF m 0).toArray.toList).run P w= .ok ((aget m k).map fun q=>(q.1,Value.int .i64 q.2)) w:=by
 have hu:(underlying key).run P w= .ok (.int .i64) w:=by simp[Go.underlying,hd]
 unfold Instr.findKey;rw[Sem.run_bind,hu];simp only[Result.andThen_ok,findNow_cm,Sem.run_pure];cases aget m k<;>simp
theorem run_lookup_cm(ht:CMapTy P mt){r:Nat}{w:World}{m:List (Int×Int)}(hb:w.heap[r]?=some (mapObj m))(k:Int)(cok:Bool):
  (Instr.lookup mt (.map (some r)) (.int .i64 k) cok).run P w= .ok (if cok then .tuple #[.int .i64 (aval m k),.bool (ahas m k)]else .int .i64 (aval m k)) w:=by
 obtain⟨key,elem,h1,h2,h3⟩:=ht;have hu:(underlying mt).run P w= .ok (.map key elem) w:=by simp[Go.underlying,h1]
 have hg:=MapKept.run_getObj_map (P:=P) hb;have hc:=fun b=>MapKept.run_checkKey (P:=P) (w:=w) (k:= .int .i64 k) h2 rfl b 9999
 have hf:=run_findKey_cm (w:=w) h2 m k;unfold aval ahas;cases hq:aget m k with
 |none=>
  rw[hq]at hf;simp only[Option.map_none]at hf;simp only[Instr.lookup,Sem.run_bind,hu,Result.andThen_ok,hg,Sem.run_pure,hc,hf,h3 w]
 |some q=>
  rw[hq]at hf;simp only[Option.map_some]at hf;simp only[Instr.lookup,Sem.run_bind,hu,Result.andThen_ok,hg,Sem.run_pure,hc,hf]
theorem mes_modify{m:List (Int×Int)}{j:Nat}{k u:Int}(hj:m[j]?=some (k,u))(p:Int×Int)(f:MapEntry→MapEntry)(hf:f {key:= .int .i64 k,val:= .int .i64 u,born:=j} ={key:= .int .i64 p.1,val:= .int .i64 p.2,born:=j}):
  (mesF m 0).toArray.modify j f=(mesF (m.set j p) 0).toArray:=by
 apply Array.ext';apply List.ext_getElem?;intro i;rw[Array.getElem?_toList,Array.getElem?_modify,mesF_set,List.getElem?_set,mesF_length];have hl:j<m.length:=(List.getElem?_eq_some_iff.1 hj).1;by_cases hij:j=i
 ·subst hij;have hv:m[j]=(k,u):=(List.getElem?_eq_some_iff.1 hj).2;simp[mesF_get,hl,hv,hf]
 ·simp[hij]
theorem mes_modify_same{m:List (Int×Int)}{j:Nat}{k u:Int}(hj:m[j]?=some (k,u))(f:MapEntry→MapEntry)(hf:f {key:= .int .i64 k,val:= .int .i64 u,born:=j} ={key:= .int .i64 k,val:= .int .i64 u,born:=j}):
  (mesF m 0).toArray.modify j f=(mesF m 0).toArray:=by
 rw[mes_modify hj (k,u) f hf];congr 1;have hl:j<m.length:=(List.getElem?_eq_some_iff.1 hj).1;have:m[j]=(k,u):=(List.getElem?_eq_some_iff.1 hj).2;rw[←this,List.set_getElem_self]
theorem mes_at{m:List (Int×Int)}{j:Nat}{k u:Int}(hj:m[j]?=some (k,u)):(mesF m 0).toArray[j]?=some {key:= .int .i64 k,val:= .int .i64 u,born:=j} :=by
 simp[mesF_get,hj]
theorem run_mapUpdate_cm(ht:CMapTy P mt){r:Nat}{w:World}{m:List (Int×Int)}(hb:w.heap[r]?=some (mapObj m))(k v:Int):
  (Instr.mapUpdate mt (.map (some r)) (.int .i64 k) (.int .i64 v)).run P w= .ok () {w with heap:=w.heap.setIfInBounds r (mapObj (aset m k v))} :=by
 obtain⟨key,elem,h1,h2,h3⟩:=ht;have hu:(underlying mt).run P w= .ok (.map key elem) w:=by simp[Go.underlying,h1]
 have hg:=MapKept.run_getObj_map (P:=P) hb;have hc:=fun b=>MapKept.run_checkKey (P:=P) (w:=w) (k:= .int .i64 k) h2 rfl b 9999
 have hf:=run_findKey_cm (w:=w) h2 m k;have hset:=fun o=>MapKept.run_setObj_map (P:=P) (w:=w) o hb
 have hstay:(Instr.keyThatStays (.int .i64 k) (.int .i64 k)).run P w= .ok (.int .i64 k) w:=MapKept.run_keyThatStays (d:= .int .i64) rfl;rcases aget_spec (k:=k) (m:=m)with⟨hq,hn⟩|⟨j,u,hq,hj⟩
 ·rw[hq]at hf;simp only[Option.map_none]at hf;simp only[Instr.mapUpdate,Sem.run_bind,hu,Result.andThen_ok,hg,hc,hf,hset,aset,hq];simp[mapObj,mesF_app]
 ·rw[hq]at hf;simp only[Option.map_some]at hf;have hkey:(((mesF m 0).toArray[j]?).map (·.key)).getD (.int .i64 k)= .int .i64 k:=by rw[mes_at hj];rfl
  simp only[Instr.mapUpdate,Sem.run_bind,hu,Result.andThen_ok,hg,hc,hf,hkey,hstay,hset,aset,hq];rw[mes_modify hj (k,v) _ rfl];simp[mapObj]
theorem run_mapEntry_cm(ht:CMapTy P mt){r:Nat}{w:World}{m:List (Int×Int)}(hb:w.heap[r]?=some (mapObj m))(k:Int):
  (Instr.mapEntry mt (.map (some r)) (.int .i64 k)).run P w= .ok (.tuple #[.int .i64 (aval m k),.int .i64 (apos m k)]) {w with heap:=w.heap.setIfInBounds r (mapObj (aent m k))} :=by
 obtain⟨key,elem,h1,h2,h3⟩:=ht;have hu:(underlying mt).run P w= .ok (.map key elem) w:=by simp[Go.underlying,h1]
 have hg:=MapKept.run_getObj_map (P:=P) hb;have hc:=fun b=>MapKept.run_checkKey (P:=P) (w:=w) (k:= .int .i64 k) h2 rfl b 9999
 have hf:=run_findKey_cm (w:=w) h2 m k;have hset:=fun o=>MapKept.run_setObj_map (P:=P) (w:=w) o hb
 have hstay:(Instr.keyThatStays (.int .i64 k) (.int .i64 k)).run P w= .ok (.int .i64 k) w:=MapKept.run_keyThatStays (d:= .int .i64) rfl;rcases aget_spec (k:=k) (m:=m)with⟨hq,hn⟩|⟨j,u,hq,hj⟩
 ·rw[hq]at hf;simp only[Option.map_none]at hf;simp only[Instr.mapEntry,Sem.run_bind,hu,Result.andThen_ok,hg,hc,hf,hset,h3 w,aval,apos,aent,hq,Sem.run_pure,goInt];simp[mapObj,mesF_app]
 ·rw[hq]at hf;simp only[Option.map_some]at hf;have hkey:(((mesF m 0).toArray[j]?).map (·.key)).getD (.int .i64 k)= .int .i64 k:=by rw[mes_at hj];rfl
  have hborn':(((mesF m 0).toArray[j]?).map fun x=>(x.born:Int)).getD 0=j:=by rw[mes_at hj];rfl
  simp only[Instr.mapEntry,Sem.run_bind,hu,Result.andThen_ok,hg,hc,hf,hkey,hstay,hset,aval,apos,aent,hq,Sem.run_pure,goInt];rw[mes_modify_same hj _ rfl];simp only[List.getElem?_toArray]at hborn';simp[mapObj,hborn']
theorem run_entryStore_cm{r:Nat}{w:World}{m:List (Int×Int)}(hb:w.heap[r]?=some (mapObj m))(j:Nat)(hj:j<m.length)(v:Int):
  (Instr.entryStore mt (.map (some r)) (.int .i64 j) (.int .i64 v)).run P w= .ok () {w with heap:=w.heap.setIfInBounds r (mapObj (aput m j v))} :=by
 have hg:=MapKept.run_getObj_map (P:=P) hb;have hset:=fun o=>MapKept.run_setObj_map (P:=P) (w:=w) o hb
 obtain⟨k,u,hm⟩: ∃k u,m[j]?=some (k,u):=⟨m[j].1,m[j].2,by rw[List.getElem?_eq_getElem hj]⟩;have hfind:(mesF m 0).toArray.findIdx? (fun e=>(e.born:Int)==(j:Int))=some j:=by
  rw[List.findIdx?_toArray,List.findIdx?_eq_some_iff_getElem];refine⟨by rw[mesF_length];exact hj,?_,?_⟩
  ·have:=mesF_get m 0 j;rw[List.getElem?_eq_getElem (by rw[mesF_length];exact hj),hm]at this;simp only[Option.map_some,Option.some.injEq]at this;rw[this];simp
  ·intro i hi;have hil:i<m.length:=by omega
   have:=mesF_get m 0 i;rw[List.getElem?_eq_getElem (by rw[mesF_length];exact hil),List.getElem?_eq_getElem hil]at this;simp only[Option.map_some,Option.some.injEq]at this;rw[this];simp;omega
 simp only[Instr.entryStore,Sem.run_bind,hg,Result.andThen_ok,asInt,asIntOf,Sem.run_pure,hfind,hset];rw[mes_modify hm (k,v) _ rfl];simp[mapObj,aput,hm]
end
/-! ### A range over a map -/
def pv(p:Int×Int):Value×Value:=(.int .i64 p.1,.int .i64 p.2)
def IterAt(left:List (Int×Int))(cur:Option (Int×Int))(a:Nat)(F:Nat→Prop)(w:World):Prop:=
 F a∧ ∃since seen st bm es clock,w.heap[a]?=some (.mapIter (some bm) since seen st)∧bm≠a∧F bm∧w.heap[bm]?=some (.map es clock)∧(∀x∈es.toList,x.born<since)∧since≤st∧(es.toList.map (·.born)).Nodup∧
  (leftOf es seen).toList.map (fun e=>(e.key,e.val))=left.map pv∧(∀k v,cur=some (k,v)→st=clock∧ ∃e∈es.toList,∃s',seen=Array.push s' e.born∧e.key= .int .i64 k∧e.val= .int .i64 v)∧since≤clock
theorem IterAt.near{left:List (Int×Int)}{cur:Option (Int×Int)}{a:Nat}{F:Nat→Prop}{w w':World}(h:IterAt left cur a F w)(hw: ∀b,F b→w'.heap[b]?=w.heap[b]?):IterAt left cur a F w':=by
 obtain⟨h1,since,seen,st,bm,es,clock,h2,h3,h4,h5,h6⟩:=h;exact⟨h1,since,seen,st,bm,es,clock,by rw[hw _ h1];exact h2,h3,h4,by rw[hw _ h4];exact h5,h6⟩
theorem born_mesF: ∀(m:List (Int×Int)) (i:Nat),(mesF m i).map (·.born)=List.range' i m.length
 |[],_=>rfl
 |_::l,i=>by simp[mesF,born_mesF l,List.range'_succ]
theorem kv_mesF: ∀(m:List (Int×Int)) (i:Nat),(mesF m i).map (fun e=>(e.key,e.val))=m.map pv
 |[],_=>rfl
 |_::l,i=>by simp[mesF,kv_mesF l,pv]
theorem IterAt.begin{m:List (Int×Int)}{a bm:Nat}{F:Nat→Prop}{w:World}(ha:F a)(hb:F bm)(hne:bm≠a)(h1:w.heap[a]?=some (.mapIter (some bm) m.length #[] m.length))(h2:w.heap[bm]?=some (mapObj m)):IterAt m none a F w:=by
 refine⟨ha,m.length,#[],m.length,bm,(mesF m 0).toArray,m.length,h1,hne,hb,h2,fun x hx=>?_,Nat.le_refl _,?_,?_,fun k v e=>(by cases e),Nat.le_refl _⟩
 ·have:x.born∈(mesF m 0).map (·.born):=List.mem_map.2 ⟨x,hx,rfl⟩;rw[born_mesF]at this;simp at this;exact this
 ·show((mesF m 0).map (·.born)).Nodup;rw[born_mesF];exact List.nodup_range'
 ·have:leftOf (mesF m 0).toArray #[]=(mesF m 0).toArray:=by
   unfold leftOf;rw[Array.filter_eq_self];intro x _;simp
  rw[this];exact kv_mesF m 0
theorem filter_out{L1 L2:List MapEntry}{e:MapEntry}(h:((L1++e::L2).map (·.born)).Nodup):(L1++e::L2).filter (fun x=>!(x.born==e.born))=L1++L2:=by
 rw[List.map_append,List.map_cons,List.nodup_append]at h;obtain⟨_,h2,h3⟩:=h;rw[List.nodup_cons]at h2;rw[List.filter_append,List.filter_cons];simp only[beq_self_eq_true,Bool.not_true,Bool.false_eq_true,if_false];congr 1
 ·rw[List.filter_eq_self];intro x hx;have:=h3 x.born (List.mem_map.2 ⟨x,hx,rfl⟩) e.born (List.mem_cons_self ..);simpa using this
 ·rw[List.filter_eq_self];intro x hx;have:x.born≠e.born:=fun he=>h2.1 (he▸List.mem_map.2 ⟨x,hx,rfl⟩)
  simpa using this
theorem leftOf_push(es:Array MapEntry)(seen:Array Nat)(b:Nat):(leftOf es (seen.push b)).toList=(leftOf es seen).toList.filter (fun x=>!(x.born==b)):=by
 unfold leftOf;rw[Array.toList_filter,Array.toList_filter,List.filter_filter];congr 1;funext x;simp only[Array.contains_push];cases seen.contains x.born<;>simp
section
variable {P:Program}
theorem run_next_it{left:List (Int×Int)}{cur:Option (Int×Int)}{a:Nat}{F:Nat→Prop}{w:World}(h:IterAt left cur a F w)(ty:TypeId):
  (left=[]∧(Instr.next (.pointer (some ⟨a,0,none⟩)) false ty).run P w= .ok (.tuple #[.bool false]) w)∨
  ∃r1 p r2 w',left=r1++p::r2∧(Instr.next (.pointer (some ⟨a,0,none⟩)) false ty).run P w= .ok (.tuple #[.bool true,.int .i64 p.1,.int .i64 p.2]) w'∧
   w'.heap.size=w.heap.size∧(∀b,b≠a→w'.heap[b]?=w.heap[b]?)∧(w'.os=w.os∧w'.output=w.output)∧IterAt (r1++r2) (some p) a F w':=by
 obtain⟨h1,since,seen,st,bm,es,clock,h2,h3,h4,h5,h6,h7,h8,h9,_,h11⟩:=h
 rcases run_next_at (P:=P) w ty a bm since st seen es clock h2 h5 h6 h7 with⟨q1,q2⟩|⟨e,he,w1,hw1,q2⟩
 ·refine .inl ⟨?_,q2⟩
  have:(leftOf es seen).toList=[]:=by
   rw[Array.toList_eq_nil_iff]
   exact Array.eq_empty_of_size_eq_zero q1
  rw[this]at h9
  simpa using h9.symm
 ·obtain⟨L1,L2,hL⟩:=List.append_of_mem he
  have h9':=h9
  rw[hL,List.map_append,List.map_cons]at h9'
  obtain⟨r1,rr,hl,e1,e2⟩:=List.map_eq_append_iff.1 h9'.symm
  obtain⟨p,r2,hrr,e3,e4⟩:=List.map_eq_cons_iff.1 e2
  subst hl hrr
  simp only[pv,Prod.mk.injEq]at e3
  have hheap:w1.heap=w.heap:=by rcases hw1 with rfl|rfl<;>rfl
  have hlt:a<w.heap.size:=(Array.getElem?_eq_some_iff.1 h2).1
  have hnd:((leftOf es seen).toList.map (·.born)).Nodup:=by
   have:((leftOf es seen).toList).Sublist es.toList:=by
    unfold leftOf
    rw[Array.toList_filter]
    exact List.filter_sublist
   exact(this.map _).nodup h8
  have hmem:e∈es.toList:=(mem_left he).1
  refine .inr ⟨r1,p,r2,Go.ChangeMaps.setBlock w1 a (.mapIter (some bm) since (seen.push e.born) clock),rfl,?_,by simp[Go.ChangeMaps.setBlock,hheap],fun b hb=>?_,by rcases hw1 with rfl|rfl<;>exact⟨rfl,rfl⟩,h1,since,seen.push e.born,clock,bm,es,clock,?_,h3,h4,?_,h6,h11,h8,?_,?_,h11⟩
  ·rw[q2,e3.1,e3.2]
  ·simp only[Go.ChangeMaps.setBlock,hheap]
   exact Array.getElem?_setIfInBounds_ne (fun e=>hb e.symm)
  ·simp[Go.ChangeMaps.setBlock,hheap,hlt]
  ·simp only[Go.ChangeMaps.setBlock,hheap]
   rw[Array.getElem?_setIfInBounds_ne (fun e=>h3 e.symm)]
   exact h5
  ·rw[leftOf_push,hL,filter_out (by rw[←hL];exact hnd),List.map_append,List.map_append,e1,e4]
  ·intro k v hkv
   cases hkv
   exact⟨rfl,e,hmem,seen,rfl,e3.1.symm,e3.2.symm⟩
theorem run_entry_it{left:List (Int×Int)}{k v:Int}{a:Nat}{F:Nat→Prop}{w:World}(h:IterAt left (some (k,v)) a F w):
  (Instr.entry (.pointer (some ⟨a,0,none⟩))).run P w= .ok (.tuple #[.int .i64 k,.int .i64 v]) w:=by
 obtain⟨h1,since,seen,st,bm,es,clock,h2,h3,h4,h5,h6,h7,h8,h9,h10,_⟩:=h;obtain⟨rfl,e,he,s',rfl,hk,hv⟩:=h10 k v rfl;rw[←hk,←hv];exact run_entry_at w a bm since s' es st e h2 h5 he h8
end
def intsV(ks:List Int):Value:= .agg (ks.map (Value.int .i64)).toArray
theorem map_int_inj: ∀{l l':List Int},l.map (Value.int .i64)=l'.map (Value.int .i64)→l=l'
 |[],[],_=>rfl
 |[],_::_,h=>by simp at h
 |_::_,[],h=>by simp at h
 |x::xs,y::ys,h=>by
  simp only[List.map_cons,List.cons.injEq,Value.int.injEq,true_and]at h;rw[h.1,map_int_inj h.2]
theorem intsV_inj{l l':List Int}(h:intsV l=intsV l'):l=l':=by
 simp only[intsV,Value.agg.injEq,List.toArray_eq_iff]at h;exact map_int_inj (by simpa using h)
theorem sameBits_ints(l:List Int)(d:Nat):Instr.sameBits (d+2) (intsV l) (intsV l)=true:=by
 simp only[intsV,Instr.sameBits,BEq.rfl,Bool.true_and,List.all_eq_true];intro p hp;obtain⟨i,hi⟩:=List.getElem?_of_mem hp;simp only[List.getElem?_zip_eq_some]at hi;obtain⟨h1,h2⟩:=hi;rw[h1]at h2;simp only[Option.some.injEq]at h2;rw[←h2];have:p.1∈l.map (Value.int .i64):=by
  have:=List.mem_of_getElem? h1;simpa using this
 obtain⟨x,_,hx⟩:=List.mem_map.1 this;rw[←hx];simp[Instr.sameBits]
/-! ### Maps whose keys and elements are numbers, or rows of numbers -/
inductive Kd where
 |num
 |row
 |bit
structure GShape where
 kb:Kd
 kn:Nat
 vb:Kd
 vn:Nat
abbrev GL:=List (List Int×List Int)
def datV:Kd→List Int→Value
 | .row,ks=>intsV ks
 | .num,ks=> .int .i64 (ks.headD 0)
 | .bit,ks=> .bool (!decide (ks.headD 0=0))
def mesG(g:GShape):GL→Nat→List MapEntry
 |[],_=>[]
 |p::l,i=>{key:=datV g.kb p.1,val:=datV g.vb p.2,born:=i} ::mesG g l (i+1)
def gmapObj(g:GShape)(m:GL):Obj:= .map (mesG g m 0).toArray m.length
def GLens(g:GShape)(m:GL):Prop:= ∀p∈m,p.1.length=g.kn∧p.2.length=g.vn
theorem mesG_length{g:GShape} : ∀(m:GL) (i:Nat),(mesG g m i).length=m.length
 |[],_=>rfl
 |_::l,i=>by simp[mesG,mesG_length l]
theorem mesG_get{g:GShape} : ∀(m:GL) (i j:Nat),(mesG g m i)[j]?=(m[j]?).map fun p=>({key:=datV g.kb p.1,val:=datV g.vb p.2,born:=i+j} :MapEntry)
 |[],_,_=>by simp[mesG]
 |p::l,i,0=>by simp[mesG]
 |p::l,i,j+1=>by simp[mesG,mesG_get l,Nat.add_assoc,Nat.add_comm 1]
theorem mesG_app{g:GShape} : ∀(m:GL) (p:List Int×List Int) (i:Nat),mesG g (m++[p]) i=mesG g m i++[{key:=datV g.kb p.1,val:=datV g.vb p.2,born:=i+m.length}]
 |[],p,i=>by simp[mesG]
 |q::l,p,i=>by simp[mesG,mesG_app l,Nat.add_assoc,Nat.add_comm 1]
theorem mesG_set{g:GShape}(m:GL)(i j:Nat)(p:List Int×List Int):mesG g (m.set j p) i=(mesG g m i).set j {key:=datV g.kb p.1,val:=datV g.vb p.2,born:=i+j} :=by
 apply List.ext_getElem?;intro k;rw[mesG_get,List.getElem?_set,List.getElem?_set,mesG_length,mesG_get];by_cases hjk:j=k
 ·subst hjk;by_cases hl:j<m.length<;>simp[hl]
 ·simp[hjk]
def gget:GL→List Int→Option (Nat×List Int)
 |[],_=>none
 |(a,b)::l,k=>if a=k then some (0,b)else match gget l k with
  |some (j,v)=>some (j+1,v)
  |none=>none
def gval(n:Nat)(m:GL)(k:List Int):List Int:=match gget m k with|some (_,v)=>v|none=>List.replicate n 0
def ghas(m:GL)(k:List Int):Bool:=match gget m k with|some _=>true|none=>false
def gset(m:GL)(k v:List Int):GL:=
 match gget m k with
 |some (j,_)=>m.set j (k,v)
 |none=>m++[(k,v)]
def GKeyTy(P:Program)(key:Nat)(kb:Kd)(kn:Nat):Prop:=
 ∃d,P.underlying key=some d∧match kb with
  | .bit=>False
  | .num=>d= .int .i64∧kn=1
  | .row=>(∀a b,Instr.sameNow d (.agg a) b=none)∧(∀b ks w,ks.length=kn→(Instr.checkKey b 10000 key (intsV ks)).run P w= .ok () w)∧
    ∀ks ks' w,ks.length=kn→ks'.length=kn→(Op.equal key (intsV ks) (intsV ks')).run P w= .ok (decide (ks=ks')) w
def GMapTy(P:Program)(mt:Nat)(g:GShape):Prop:=
 ∃key elem,P.underlying mt=some (.map key elem)∧(∀w,(zeroValue elem).run P w= .ok (datV g.vb (List.replicate g.vn 0)) w)∧GKeyTy P key g.kb g.kn
theorem gget_spec{k:List Int} : ∀{m:GL},(gget m k=none∧ ∀p∈m,p.1≠k)∨ ∃j v,gget m k=some (j,v)∧m[j]?=some (k,v)
 |[]=> .inl ⟨rfl,by simp⟩
 |(a,b)::l=>by
  by_cases h:a=k
  ·subst h;exact .inr ⟨0,b,by simp[gget],rfl⟩
  ·rcases gget_spec (k:=k) (m:=l)with⟨h1,h2⟩|⟨j,v,h1,h2⟩
   ·refine .inl ⟨by simp[gget,h,h1],fun p hp=>?_⟩;rcases List.mem_cons.1 hp with rfl|hp
    ·exact h
    ·exact h2 p hp
   ·exact .inr ⟨j+1,v,by simp[gget,h,h1],by simpa using h2⟩
theorem gval_len{g:GShape}{m:GL}(hm:GLens g m)(k:List Int):(gval g.vn m k).length=g.vn:=by
 unfold gval;rcases gget_spec (k:=k) (m:=m)with⟨h1,_⟩|⟨j,v,h1,h2⟩<;>rw[h1]
 ·simp
 ·exact(hm _ (List.mem_of_getElem? h2)).2
theorem gset_len{g:GShape}{m:GL}(hm:GLens g m){k v:List Int}(hk:k.length=g.kn)(hv:v.length=g.vn):GLens g (gset m k v):=by
 unfold gset;intro p hp;split at hp
 ·rcases List.mem_or_eq_of_mem_set hp with h|h
  ·exact hm p h
  ·rw[h];exact⟨hk,hv⟩
 ·rcases List.mem_append.1 hp with h|h
  ·exact hm p h
  ·simp only[List.mem_singleton]at h;rw[h];exact⟨hk,hv⟩
theorem findNow_g{g:GShape}(hb:g.kb= .num)(hn:g.kn=1){k:List Int}(hk:k.length=1): ∀{m:GL} {b i:Nat},GLens g m→Instr.findNow (.int .i64) (datV g.kb k) (mesG g m b) i=some ((gget m k).map fun q=>(i+q.1,datV g.vb q.2))
 |[],_,_,_=>rfl
 |(a,c)::m,b,i,hm=>by
  have ih := findNow_g hb hn hk (m := m) (b := b + 1) (i := i + 1) fun p hp => hm p (by simp [hp])
  have ha:a.length=1:=(hm (a,c) (by simp)).1.trans hn;obtain⟨x,rfl⟩: ∃x,a=[x]:=List.length_eq_one_iff.1 ha;obtain⟨y,rfl⟩: ∃y,k=[y]:=List.length_eq_one_iff.1 hk;rw[hb]at ih⊢;simp only[mesG,hb,datV,List.headD_cons,Instr.findNow,Instr.sameNow,if_true]at ih⊢;by_cases hk:x=y
  ·subst hk;simp[gget]
  ·have hk':(y==x)=false:=by simpa using fun e=>hk e.symm
   simp only[hk',ih,gget,if_neg (fun e:[x]=[y]=>hk (List.cons.inj e).1)];cases gget m [y]with
   |none=>rfl
   |some q=>simp;omega
section
variable {P:Program} {mt:Nat}
theorem findAsking_g{g:GShape}(hb:g.kb= .row){key:Nat}(heq: ∀ks ks' w,ks.length=g.kn→ks'.length=g.kn→(Op.equal key (intsV ks) (intsV ks')).run P w= .ok (decide (ks=ks')) w){k:List Int}(hk:k.length=g.kn)(w:World):
  ∀(m:GL) (b i:Nat),GLens g m→(Instr.findAsking key (datV g.kb k) (mesG g m b) i).run P w= .ok ((gget m k).map fun q=>(i+q.1,datV g.vb q.2)) w
 |[],_,_,_=>by simp[mesG,Instr.findAsking,gget]
 |(a,c)::m,b,i,hm=>by
  have ih := findAsking_g hb heq hk w m (b + 1) (i + 1) fun p hp => hm p (by simp [hp])
  have ha:a.length=g.kn:=(hm (a,c) (by simp)).1;have eT: ∀ks,datV .row ks=intsV ks:=fun _=>rfl
  rw[hb,eT]at ih;rw[hb,eT];have e:(mesG g ((a,c)::m) b)={key:=intsV a,val:=datV g.vb c,born:=b} ::mesG g m (b+1):=by simp[mesG,hb,eT]
  rw[e,Instr.findAsking,Sem.run_bind,heq k a w hk ha];by_cases h:k=a
  ·subst h;simp[gget]
  ·simp only[Result.andThen_ok,decide_eq_false h,Bool.false_eq_true,if_false,ih,gget,if_neg (fun e:a=k=>h e.symm)];cases gget m k with
   |none=>rfl
   |some q=>simp;omega
theorem run_findKey_g{g:GShape}{key:Nat}(hd:GKeyTy P key g.kb g.kn){m:GL}(hm:GLens g m){k:List Int}(hk:k.length=g.kn)(w:World):
  (Instr.findKey key (datV g.kb k) (mesG g m 0).toArray.toList).run P w= .ok ((gget m k).map fun q=>(q.1,datV g.vb q.2)) w:=by
 obtain⟨d,h1,h2⟩:=hd;have hu:(underlying key).run P w= .ok d w:=by simp[Go.underlying,h1]
 unfold Instr.findKey;rw[Sem.run_bind,hu];cases hb:g.kb with
 |bit=>
  rw[hb]at h2;exact h2.elim
 |num=>
  rw[hb]at h2;obtain⟨rfl,hn⟩:=h2;have:=findNow_g (b:=0) (i:=0) hb hn (hk.trans hn) hm;rw[hb]at this;simp only[Result.andThen_ok,this,Sem.run_pure];cases gget m k<;>simp
 |row=>
  rw[hb]at h2;obtain⟨h3,_,h5⟩:=h2;have hA:=findAsking_g hb h5 hk w m 0 0 hm;rw[hb]at hA;cases m with
  |nil=>simp[mesG,Instr.findNow,gget]
  |cons p m=>
   have hn:Instr.findNow d (datV .row k) (mesG g (p::m) 0) 0=none:=by
    simp only[mesG,Instr.findNow,datV,intsV,h3]
   simp only[Result.andThen_ok,hn,hA];cases gget (p::m) k<;>simp
theorem run_checkKey_g{g:GShape}{key:Nat}(hd:GKeyTy P key g.kb g.kn){k:List Int}(hk:k.length=g.kn)(b:Bool)(w:World):(Instr.checkKey b 10000 key (datV g.kb k)).run P w= .ok () w:=by
 obtain⟨d,h1,h2⟩:=hd;cases hb:g.kb with
 |bit=>
  rw[hb]at h2;exact h2.elim
 |num=>
  rw[hb]at h2;obtain⟨rfl,_⟩:=h2;exact MapKept.run_checkKey (P:=P) (w:=w) (k:= .int .i64 (k.headD 0)) h1 rfl b 9999
 |row=>
  rw[hb]at h2;exact h2.2.1 b k w hk
theorem run_stay_g(b:Kd)(k:List Int)(w:World):(Instr.keyThatStays (datV b k) (datV b k)).run P w= .ok (datV b k) w:=by
 cases b with
 |num=>exact MapKept.run_keyThatStays (d:= .int .i64) rfl
 |bit=>simp[Instr.keyThatStays,datV,Instr.sameBits]
 |row=>
  have:Instr.sameBits 10000 (intsV k) (intsV k)=true:=sameBits_ints k 9998;simp[Instr.keyThatStays,datV,this]
theorem run_lookup_g{g:GShape}(ht:GMapTy P mt g){r:Nat}{w:World}{m:GL}(hm:GLens g m)(hb:w.heap[r]?=some (gmapObj g m)){k:List Int}(hk:k.length=g.kn)(cok:Bool):
  (Instr.lookup mt (.map (some r)) (datV g.kb k) cok).run P w= .ok (if cok then .tuple #[datV g.vb (gval g.vn m k),.bool (ghas m k)]else datV g.vb (gval g.vn m k)) w:=by
 obtain⟨key,elem,h1,h2,h3⟩:=ht;have hu:(underlying mt).run P w= .ok (.map key elem) w:=by simp[Go.underlying,h1]
 have hg:=MapKept.run_getObj_map (P:=P) hb;have hc:=fun b=>run_checkKey_g h3 hk b w
 have hf:=run_findKey_g h3 hm hk w;unfold gval ghas;cases hq:gget m k with
 |none=>
  rw[hq]at hf;simp only[Option.map_none]at hf;simp only[Instr.lookup,Sem.run_bind,hu,Result.andThen_ok,hg,Sem.run_pure,hc,hf,h2 w]
 |some q=>
  rw[hq]at hf;simp only[Option.map_some]at hf;simp only[Instr.lookup,Sem.run_bind,hu,Result.andThen_ok,hg,Sem.run_pure,hc,hf]
theorem mesG_modify{g:GShape}{m:GL}{j:Nat}{k u:List Int}(hj:m[j]?=some (k,u))(p:List Int×List Int)(f:MapEntry→MapEntry)(hf:f {key:=datV g.kb k,val:=datV g.vb u,born:=j} ={key:=datV g.kb p.1,val:=datV g.vb p.2,born:=j}):
  (mesG g m 0).toArray.modify j f=(mesG g (m.set j p) 0).toArray:=by
 apply Array.ext';apply List.ext_getElem?;intro i;rw[Array.getElem?_toList,Array.getElem?_modify,mesG_set,List.getElem?_set,mesG_length];have hl:j<m.length:=(List.getElem?_eq_some_iff.1 hj).1;by_cases hij:j=i
 ·subst hij;have hv:m[j]=(k,u):=(List.getElem?_eq_some_iff.1 hj).2;simp[mesG_get,hl,hv,hf]
 ·simp[hij]
theorem run_mapUpdate_g{g:GShape}(ht:GMapTy P mt g){r:Nat}{w:World}{m:GL}(hm:GLens g m)(hb:w.heap[r]?=some (gmapObj g m)){k:List Int}(hk:k.length=g.kn)(v:List Int):
  (Instr.mapUpdate mt (.map (some r)) (datV g.kb k) (datV g.vb v)).run P w= .ok () {w with heap:=w.heap.setIfInBounds r (gmapObj g (gset m k v))} :=by
 obtain⟨key,elem,h1,h2,h3⟩:=ht;have hu:(underlying mt).run P w= .ok (.map key elem) w:=by simp[Go.underlying,h1]
 have hg:=MapKept.run_getObj_map (P:=P) hb;have hc:=fun b=>run_checkKey_g h3 hk b w
 have hf:=run_findKey_g h3 hm hk w;have hset:=fun o=>MapKept.run_setObj_map (P:=P) (w:=w) o hb
 have hstay:=run_stay_g (P:=P) g.kb k w;rcases gget_spec (k:=k) (m:=m)with⟨hq,hn⟩|⟨j,u,hq,hj⟩
 ·rw[hq]at hf;simp only[Option.map_none]at hf;simp only[Instr.mapUpdate,Sem.run_bind,hu,Result.andThen_ok,hg,hc,hf,hset,gset,hq];simp[gmapObj,mesG_app]
 ·rw[hq]at hf;simp only[Option.map_some]at hf;have hkey:(((mesG g m 0).toArray[j]?).map (·.key)).getD (datV g.kb k)=datV g.kb k:=by
   have:(mesG g m 0).toArray[j]?=some {key:=datV g.kb k,val:=datV g.vb u,born:=j} :=by simp[mesG_get,hj]
   rw[this];rfl
  simp only[Instr.mapUpdate,Sem.run_bind,hu,Result.andThen_ok,hg,hc,hf,hkey,hstay,hset,gset,hq];rw[mesG_modify hj (k,v) _ rfl];simp[gmapObj]
end
/-! ### A range over one of them -/
def pvG(g:GShape)(p:List Int×List Int):Value×Value:=(datV g.kb p.1,datV g.vb p.2)
def IterG(g:GShape)(left:GL)(cur:Option (List Int×List Int))(a:Nat)(F:Nat→Prop)(w:World):Prop:=
 F a∧GLens g left∧ ∃since seen st bm es clock,w.heap[a]?=some (.mapIter (some bm) since seen st)∧bm≠a∧F bm∧w.heap[bm]?=some (.map es clock)∧(∀x∈es.toList,x.born<since)∧since≤st∧(es.toList.map (·.born)).Nodup∧
  (leftOf es seen).toList.map (fun e=>(e.key,e.val))=left.map (pvG g)∧(∀k v,cur=some (k,v)→st=clock∧ ∃e∈es.toList,∃s',seen=Array.push s' e.born∧e.key=datV g.kb k∧e.val=datV g.vb v)∧since≤clock
theorem IterG.near{g:GShape}{left:GL}{cur:Option (List Int×List Int)}{a:Nat}{F:Nat→Prop}{w w':World}(h:IterG g left cur a F w)(hw: ∀b,F b→w'.heap[b]?=w.heap[b]?):IterG g left cur a F w':=by
 obtain⟨h1,h0,since,seen,st,bm,es,clock,h2,h3,h4,h5,h6⟩:=h;exact⟨h1,h0,since,seen,st,bm,es,clock,by rw[hw _ h1];exact h2,h3,h4,by rw[hw _ h4];exact h5,h6⟩
theorem born_mesG{g:GShape} : ∀(m:GL) (i:Nat),(mesG g m i).map (·.born)=List.range' i m.length
 |[],_=>rfl
 |_::l,i=>by simp[mesG,born_mesG l,List.range'_succ]
theorem kv_mesG{g:GShape} : ∀(m:GL) (i:Nat),(mesG g m i).map (fun e=>(e.key,e.val))=m.map (pvG g)
 |[],_=>rfl
 |_::l,i=>by simp[mesG,kv_mesG l,pvG]
theorem IterG.begin{g:GShape}{m:GL}(hm:GLens g m){a bm:Nat}{F:Nat→Prop}{w:World}(ha:F a)(hb:F bm)(hne:bm≠a)(h1:w.heap[a]?=some (.mapIter (some bm) m.length #[] m.length))(h2:w.heap[bm]?=some (gmapObj g m)):IterG g m none a F w:=by
 refine⟨ha,hm,m.length,#[],m.length,bm,(mesG g m 0).toArray,m.length,h1,hne,hb,h2,fun x hx=>?_,Nat.le_refl _,?_,?_,fun k v e=>(by cases e),Nat.le_refl _⟩
 ·have:x.born∈(mesG g m 0).map (·.born):=List.mem_map.2 ⟨x,hx,rfl⟩;rw[born_mesG]at this;simp at this;exact this
 ·show((mesG g m 0).map (·.born)).Nodup;rw[born_mesG];exact List.nodup_range'
 ·have:leftOf (mesG g m 0).toArray #[]=(mesG g m 0).toArray:=by
   unfold leftOf;rw[Array.filter_eq_self];intro x _;simp
  rw[this];exact kv_mesG m 0
section
variable {P:Program}
theorem run_next_g{g:GShape}{left:GL}{cur:Option (List Int×List Int)}{a:Nat}{F:Nat→Prop}{w:World}(h:IterG g left cur a F w)(ty:TypeId):
  (left=[]∧(Instr.next (.pointer (some ⟨a,0,none⟩)) false ty).run P w= .ok (.tuple #[.bool false]) w)∨
  ∃r1 p r2 w',left=r1++p::r2∧(Instr.next (.pointer (some ⟨a,0,none⟩)) false ty).run P w= .ok (.tuple #[.bool true,datV g.kb p.1,datV g.vb p.2]) w'∧
   w'.heap.size=w.heap.size∧(∀b,b≠a→w'.heap[b]?=w.heap[b]?)∧(w'.os=w.os∧w'.output=w.output)∧IterG g (r1++r2) (some p) a F w':=by
 obtain⟨h1,h0,since,seen,st,bm,es,clock,h2,h3,h4,h5,h6,h7,h8,h9,_,h11⟩:=h
 rcases run_next_at (P:=P) w ty a bm since st seen es clock h2 h5 h6 h7 with⟨q1,q2⟩|⟨e,he,w1,hw1,q2⟩
 ·refine .inl ⟨?_,q2⟩
  have:(leftOf es seen).toList=[]:=by
   rw[Array.toList_eq_nil_iff]
   exact Array.eq_empty_of_size_eq_zero q1
  rw[this]at h9
  simpa using h9.symm
 ·obtain⟨L1,L2,hL⟩:=List.append_of_mem he
  have h9':=h9
  rw[hL,List.map_append,List.map_cons]at h9'
  obtain⟨r1,rr,hl,e1,e2⟩:=List.map_eq_append_iff.1 h9'.symm
  obtain⟨p,r2,hrr,e3,e4⟩:=List.map_eq_cons_iff.1 e2
  subst hl hrr
  simp only[pvG,Prod.mk.injEq]at e3
  have hheap:w1.heap=w.heap:=by rcases hw1 with rfl|rfl<;>rfl
  have hlt:a<w.heap.size:=(Array.getElem?_eq_some_iff.1 h2).1
  have hnd:((leftOf es seen).toList.map (·.born)).Nodup:=by
   have:((leftOf es seen).toList).Sublist es.toList:=by
    unfold leftOf
    rw[Array.toList_filter]
    exact List.filter_sublist
   exact(this.map _).nodup h8
  have hmem:e∈es.toList:=(mem_left he).1
  refine .inr ⟨r1,p,r2,Go.ChangeMaps.setBlock w1 a (.mapIter (some bm) since (seen.push e.born) clock),rfl,?_,by simp[Go.ChangeMaps.setBlock,hheap],fun b hb=>?_,by rcases hw1 with rfl|rfl<;>exact⟨rfl,rfl⟩,h1,
   fun q hq=>h0 q (by rcases List.mem_append.1 hq with h|h<;>simp[h]),since,seen.push e.born,clock,bm,es,clock,?_,h3,h4,?_,h6,h11,h8,?_,?_,h11⟩
  ·rw[q2,e3.1,e3.2]
  ·simp only[Go.ChangeMaps.setBlock,hheap]
   exact Array.getElem?_setIfInBounds_ne (fun e=>hb e.symm)
  ·simp[Go.ChangeMaps.setBlock,hheap,hlt]
  ·simp only[Go.ChangeMaps.setBlock,hheap]
   rw[Array.getElem?_setIfInBounds_ne (fun e=>h3 e.symm)]
   exact h5
  ·rw[leftOf_push,hL,filter_out (by rw[←hL];exact hnd),List.map_append,List.map_append,e1,e4]
  ·intro k v hkv
   cases hkv
   exact⟨rfl,e,hmem,seen,rfl,e3.1.symm,e3.2.symm⟩
theorem run_entry_g{g:GShape}{left:GL}{k v:List Int}{a:Nat}{F:Nat→Prop}{w:World}(h:IterG g left (some (k,v)) a F w):
  (Instr.entry (.pointer (some ⟨a,0,none⟩))).run P w= .ok (.tuple #[datV g.kb k,datV g.vb v]) w:=by
 obtain⟨h1,_,since,seen,st,bm,es,clock,h2,h3,h4,h5,h6,h7,h8,h9,h10,_⟩:=h;obtain⟨rfl,e,he,s',rfl,hk,hv⟩:=h10 k v rfl;rw[←hk,←hv];exact run_entry_at w a bm since s' es st e h2 h5 he h8
end
end Go.Sy
