/-
  Parts: V3, Sy35, V4, V21, V5, V6, V7.
-/
import Derived.Test.YthnhlkflkidemaaGreatDoorB25
import Derived.Test.YthnhlkflkidemaaGreatDoorB21
import Derived.Test.YthnhlkflkidemaaGreatDoorB20
import Derived.Test.YthnhlkflkidemaaGreatDoorB24
set_option linter.unusedVariables false
set_option linter.unusedSimpArgs false
/-
 Contracts: whether a hut is late; which rule a bather breaks. (--fast)
-/
namespace Go.Proofs.YthnhlkflkidemaaGreatDoor
open Go Go.Sy Srv
set_option maxRecDepth 100000
set_option maxHeartbeats 4000000
attribute [local irreducible] CallP CodeP Ent YieldP
def latB(s:SD)(i:Nat)(p:Nat)(v:Int×Int):Bool:=decide (0≤v.2)&&decide (s.fr i<v.2+s.shi*dst v.1 p)
theorem t278(s:SD)(R o:Nat→Nat)(bo:Bool)(co:Nat)(i p:Nat)(hi:i<s.n)(hn:s.n≤5)(hp:p<4)(hs:1≤s.shi∧s.shi≤6)(v:Int×Int)(hf: ∀k,k<s.n→0≤s.fr k∧s.fr k≤1000)(h1:0≤v.1∧v.1≤3)(h2: -1≤v.2∧v.2≤200):
  CallP Tryz.prog 278 [.agg [],.ptr 4 0,.int .i64 i,.int .i64 p,.agg [.int .i64 v.1,.int .i64 v.2]] (HB s R o bo co) (Ret (.bool (latB s i p v)) (HB s R o bo co)):=by
 have ei:=z1 i;have c80:=t80 v.1 p ⟨by omega,by omega⟩ ⟨by omega,by omega⟩;have hd:0≤dst v.1 p∧dst v.1 p≤3:=by unfold dst;omega
 have hm:0≤s.shi*dst v.1 p∧s.shi*dst v.1 p≤18:=by
  generalize dst v.1 (p:Int)=d at hd;rcases(show d=0∨d=1∨d=2∨d=3 by omega)with h|h|h|h<;>subst h<;>omega
 obtain⟨g,hc⟩: ∃g,decide (v.2≥0)=g:=⟨_,rfl⟩;have bi:=hf (0+((i:Nat):Int).toNat) (by omega);refine callR (E:=E) E_ok Tryz.func278 rfl ?_;(repeat' first|exact aq|refine aN ?_ ?_|exact tU);refine drawP E_ok [7] pl278_1 (by kernel_rfl) ?_;have hL:(bif decide (v.2≥0)then decide (v.2+s.shi*dst v.1 p>s.fr (0+((i:Nat):Int).toNat))else false)=latB s i p v:=by
  rw[ei];unfold latB;cases decide (v.2≥0)<;>rfl
 cases g
 ·all_goals(repeat' first|exact aq|refine aN ?_ ?_|exact tU)
  all_goals try exact dd
  all_goals intro hg
  all_goals first|(exfalso;(try rw[hc]at hg);exact tFx hg)|(exfalso;(try rw[hc]at hg);exact fTx hg)|skip
  all_goals(repeat' first|exact aq|refine aN ?_ ?_|exact tU)
  all_goals try exact dd
  all_goals intro hg2
  all_goals first|(exfalso;(try rw[hc]at hg2);exact tFx hg2)|(exfalso;(try rw[hc]at hg2);exact fTx hg2)|skip
  (repeat' first|exact aq|refine aN ?_ ?_|exact tU);all_goals try exact dd
  ·intro h;rw[hc]at h;exact fTx h
  refine ent_tau [0,1,2,3,4,5] ⟨fPp,⟨rfl,congrArg SV.bool ?_,trivial⟩,rfl⟩;rw[←hL,hc];rfl
 ·all_goals(repeat' first|exact aq|refine aN ?_ ?_|exact tU)
  all_goals try exact dd
  all_goals intro hg
  all_goals first|(exfalso;(try rw[hc]at hg);exact tFx hg)|(exfalso;(try rw[hc]at hg);exact fTx hg)|skip
  all_goals(repeat' first|exact aq|refine aN ?_ ?_|exact tU)
  all_goals try exact dd
  all_goals intro hg2
  all_goals first|(exfalso;(try rw[hc]at hg2);exact tFx hg2)|(exfalso;(try rw[hc]at hg2);exact fTx hg2)|skip
  refine c80.use [8] ?_ (fPp) rfl;(repeat' first|exact aq|refine aN ?_ ?_|exact tU);all_goals try exact dd
  exact ent_tau [0,1,2,3,4,5] ⟨fPp,⟨rfl,congrArg SV.bool hL,trivial⟩,rfl⟩
def brkS(s:SD)(R:Nat→Nat)(i p:Nat)(v:Int×Int):Nat:=if(R i).testBit p then(if latB s i p v then 2 else 0)else 1
theorem t68(s:SD)(R o:Nat→Nat)(bo:Bool)(co:Nat)(i p:Nat)(hi:i<s.n)(hn:s.n≤5)(hp:p<4)(hR:R i<16)(hs:1≤s.shi∧s.shi≤6)(hf: ∀k,k<s.n→0≤s.fr k∧s.fr k≤1000)(v:Int×Int)(h1:0≤v.1∧v.1≤3)(h2: -1≤v.2∧v.2≤200):
  CallP Tryz.prog 68 [.ptr 4 0,.int .i64 i,.int .i64 p,.agg [.int .i64 v.1,.int .i64 v.2]] (HB s R o bo co) (Ret (.int .i64 (brkS s R i p v:Nat)) (HB s R o bo co)):=by
 have cd:=t277 s R o bo co i p (by omega) hp hR v;have cl:=t278 s R o bo co i p hi hn hp hs v hf h1 h2;obtain⟨bd,hbd⟩: ∃bd,(R i).testBit p=bd:=⟨_,rfl⟩;obtain⟨bl,hbl⟩: ∃bl,latB s i p v=bl:=⟨_,rfl⟩;have hB:brkS s R i p v=if bd then(if bl then 2 else 0)else 1:=by
  unfold brkS;rw[hbd,hbl]
 rw[hbd]at cd;rw[hbl]at cl;rw[hB];refine callR (E:=E) E_ok Tryz.func68 rfl ?_;(repeat' first|exact aq|refine aN ?_ ?_|exact tU);all_goals try exact dd
 refine loopP E_ok [0,1,2,3,7,8,15,16] (fun j:Nat=>[(17,.int .i64 (j:Nat))]) (fun _ H=>H) (fun j=>j≤2∧(1≤j→bd=true)∧(2≤j→bl=false)) (fun j=>2-j) 0 ⟨by omega,by omega,by omega⟩ ?_ ?_
 ·refine ent_tau [0,1,2,3,4,5,6,7] ⟨?_,tMm,rfl⟩;(repeat' first|exact fp|refine aN ?_ ?_);exact fun k hk=>match k,hk with|0,_=>rfl|1,_=>rfl
 rintro j ⟨hj,hj1,hj2⟩;match j,hj,hj1,hj2 with
 |0,_,_,_=>
  all_goals(repeat' first|exact aq|refine aN ?_ ?_|exact tU)
  all_goals try exact dd
  all_goals intro hx
  all_goals first|exact absurd hx (by decide)|(cases hx;done)|skip
  all_goals(repeat' first|exact aq|refine aN ?_ ?_|exact tU)
  all_goals first|exact u0 (by decide)|skip
  refine cd.use [0,1,2,3,4,5] ?_ (fPp) rfl;cases bd
  ·all_goals(repeat' first|exact aq|refine aN ?_ ?_|exact tU)
   all_goals try exact dd
   all_goals intro hy
   all_goals first|exact absurd hy (by decide)|(cases hy;done)|skip
   all_goals(repeat' first|exact aq|refine aN ?_ ?_|exact tU)
   all_goals try exact dd
   exact ent_tau [0,1,2,3,4,5] ⟨fPp,tMm,rfl⟩
  ·all_goals(repeat' first|exact aq|refine aN ?_ ?_|exact tU)
   all_goals try exact dd
   all_goals intro hy
   all_goals first|exact absurd hy (by decide)|(cases hy;done)|skip
   all_goals(repeat' first|exact aq|refine aN ?_ ?_|exact tU)
   all_goals try exact dd
   refine⟨1,⟨by omega,fun _=>rfl,by omega⟩,by omega,?_⟩;refine ent_tau [0,1,2,3,4,5,6,7] ⟨?_,tMm,rfl⟩;(repeat' first|exact fp|refine aN ?_ ?_);exact fun k hk=>match k,hk with|0,_=>rfl|1,_=>rfl
 |1,_,hj1,_=>
  obtain rfl:=hj1 (by omega);all_goals(repeat' first|exact aq|refine aN ?_ ?_|exact tU)
  all_goals try exact dd
  all_goals intro hx
  all_goals first|exact absurd hx (by decide)|(cases hx;done)|skip
  all_goals(repeat' first|exact aq|refine aN ?_ ?_|exact tU)
  all_goals first|exact u0 (by decide)|skip
  refine cl.use [0,1,2,3,4,5] ?_ (fPp) rfl;cases bl
  ·all_goals(repeat' first|exact aq|refine aN ?_ ?_|exact tU)
   all_goals try exact dd
   all_goals intro hy
   all_goals first|exact absurd hy (by decide)|(cases hy;done)|skip
   all_goals(repeat' first|exact aq|refine aN ?_ ?_|exact tU)
   all_goals try exact dd
   refine⟨2,⟨by omega,fun _=>rfl,fun _=>rfl⟩,by omega,?_⟩;refine ent_tau [0,1,2,3,4,5,6,7] ⟨?_,tMm,rfl⟩;(repeat' first|exact fp|refine aN ?_ ?_);exact fun k hk=>match k,hk with|0,_=>rfl|1,_=>rfl
  ·all_goals(repeat' first|exact aq|refine aN ?_ ?_|exact tU)
   all_goals try exact dd
   all_goals intro hy
   all_goals first|exact absurd hy (by decide)|(cases hy;done)|skip
   all_goals(repeat' first|exact aq|refine aN ?_ ?_|exact tU)
   all_goals try exact dd
   exact ent_tau [0,1,2,3,4,5] ⟨fPp,tMm,rfl⟩
 |2,_,hj1,hj2=>
  obtain rfl:=hj1 (by omega);obtain rfl:=hj2 (by omega);all_goals(repeat' first|exact aq|refine aN ?_ ?_|exact tU)
  all_goals try exact dd
  all_goals intro hx
  all_goals first|exact absurd hx (by decide)|(cases hx;done)|skip
  all_goals(repeat' first|exact aq|refine aN ?_ ?_|exact tU)
  all_goals try exact dd
  exact ent_tau [0,1,2,3,4,5] ⟨fPp,tMm,rfl⟩
end Go.Proofs.YthnhlkflkidemaaGreatDoor
/-
 Sy35: a pack with one block more, whose name is not told. No program is named.
-/
namespace Go.Sy
open Go
def exOB(ob:OB):OB where
 R l F w:= ∃x:Option (Nat×Nat),ob.R (l++[x]) F w;mono:=by
  rintro l l' F w hn ⟨x,h⟩;refine⟨x,ob.mono ⟨by simp[hn.1],fun j a hj=>?_⟩ h⟩;rw[List.getElem?_append]at hj⊢;rw[←hn.1];split at hj
  ·rename_i h1;rw[if_pos h1];exact hn.2 j a hj
  ·rename_i h1;rw[if_neg h1];exact hj
 near:=by
  rintro l F w w' hw ⟨x,h⟩;exact⟨x,ob.near hw h⟩
theorem entOpenEx{n:Nat}{T:Tm}{H:SHeap}{D:List SV}{i:Nat}{ns:List Nat}{ob:OB}(hi:H[i]?=some (some (.pack ns (exOB ob)))):
  Ent n ⟨T,H,D⟩ ⟨T,(H.set i (some (.pack (ns++[H.length]) ob)))++[some .dead],D⟩:=by
 intro η φ w0 Ef w a hn hs hT hD;obtain⟨ai,hai⟩:=hs.named i _ hi;obtain⟨x,hx⟩:=hs.holds i _ ai hi hai;have hil:=lt_of_get hi;obtain⟨hle,hs'⟩:=hs.plus (o':= .dead) (a':=x.getD (0,0)) (fun _=>False) trivial (fun _ hb=>hb.elim) (fun hr=>by cases hr) (fun hr=>by cases hr) (fun _ _ _ _ _ _ _ _ hb=>hb.elim);have hput:(η.put H.length (x.getD (0,0))) H.length=some (x.getD (0,0)):=Nam.put_same _ _ _;have hi':(H++[some SObj.dead])[i]?=some (some (.pack ns (exOB ob))):=by rw[List.getElem?_append_left hil];exact hi
 have hne:i≠H.length:=by omega
 have hs2:=hs'.less (o':= .pack (ns++[H.length]) ob) hi' (fun _ _ hb=>hb) (fun _=>rfl) (fun b _=>by
  show ob.R ((ns++[H.length]).map _) _ w;simp only[if_neg hne,List.map_append,List.map_cons,List.map_nil];refine ob.mono ⟨by simp,fun j c hj=>?_⟩ hx;rw[List.getElem?_append]at hj⊢;simp only[List.length_map]at hj⊢;split at hj
  ·rename_i h1;rw[if_pos h1];exact(NLe.map hle ns).2 j c hj
  ·rename_i h1;rw[if_neg h1];rw[hput];cases hk:j-ns.length with
   |zero=>
    rw[hk]at hj;simp at hj;rw[hj];rfl
   |succ k=>
    rw[hk]at hj;simp at hj)
 rw[List.set_append_left _ _ hil]at hs2;refine⟨_,_,fun j hj=>Nam.put_other _ _ (by have hn':n≤H.length:=hn;omega),by simp at hn⊢;omega,hs2,hT.mono hle,hD.mono hle⟩
theorem entCloseEx{n:Nat}{T:Tm}{H:SHeap}{D:List SV}{i k:Nat}{ns:List Nat}{ob:OB}(hi:H[i]?=some (some (.pack (ns++[k]) ob))):
  Ent n ⟨T,H,D⟩ ⟨T,H.set i (some (.pack ns (exOB ob))),D⟩:=by
 intro η φ w0 Ef w a hn hs hT hD;refine⟨η,φ,fun _ _=>rfl,by simpa using hn,hs.less hi (fun _ _ hb=>hb) (fun _=>rfl) (fun b hb=>⟨η k,?_⟩),hT,hD⟩;have hb:ob.R ((ns++[k]).map η) _ w:=hb;simpa using hb
end Go.Sy
/-
 Plans of a beach, one by one: what lies where. (--fast)
-/
namespace Go.Proofs.YthnhlkflkidemaaGreatDoor
open Go Go.Sy Srv
set_option maxRecDepth 100000
set_option maxHeartbeats 4000000
attribute [local irreducible] CallP CodeP Ent YieldP
def stI(st:Hst):List Int:=[(st 0).1,(st 0).2,(st 1).1,(st 1).2,(st 2).1,(st 2).2,(st 3).1,(st 3).2]
def stV(st:Hst):List SV:=[.int .i64 (st 0).1,.int .i64 (st 0).2,.int .i64 (st 1).1,.int .i64 (st 1).2,.int .i64 (st 2).1,.int .i64 (st 2).2,.int .i64 (st 3).1,.int .i64 (st 3).2]
theorem st_get(st:Hst){h:Int}(hh:0≤h∧h≤3):((stI st).getD (h.toNat*2+0) 0,(stI st).getD (h.toNat*2+1) 0)=st h.toNat:=by
 obtain⟨k,rfl⟩: ∃k:Nat,h=k:=⟨h.toNat,by omega⟩;have:k<4:=by omega
 match k,this with
 |0,_|1,_|2,_|3,_=>rfl
theorem st_set(st:Hst){h:Int}(hh:0≤h∧h≤3)(x y:Int):stV (upS st h.toNat (x,y))=(List.range 8).map fun m=>SV.int .i64 (if h.toNat*2+0≤m∧m<h.toNat*2+0+[x,y].length then [x,y].getD (m-(h.toNat*2+0)) 0 else(stI st).getD m 0):=by
 obtain⟨k,rfl⟩: ∃k:Nat,h=k:=⟨h.toNat,by omega⟩;have:k<4:=by omega
 match k,this with
 |0,_|1,_|2,_|3,_=>rfl
def HstOk(st:Hst):Prop:= ∀h,(0≤(st h).1∧(st h).1≤3)∧(-1≤(st h).2∧(st h).2≤200)
theorem HstOk.up{st:Hst}(hs:HstOk st){h:Nat}{x y:Int}(hx:0≤x∧x≤3)(hy: -1≤y∧y≤200):HstOk (upS st h (x,y)):=fun k=>by
 unfold upS;split
 ·exact⟨hx,hy⟩
 ·exact hs k
theorem begOk:HstOk begS:=fun k=>by
 unfold begS;omega
def sbR(s:SD)(R:Nat→Nat):SB:=⟨s.n,s.t.nS,fun i=>(s.hut i).toNat,s.fr,s.to,s.shi,fun i p=>(R i).testBit p⟩
theorem brk_sb(s:SD)(R:Nat→Nat)(i p:Nat)(v:Int×Int):(sbR s R).brk i (p:Int) v=brkS s R i p v:=by
 unfold SB.brk brkS SB.lat latB sbR;simp only[Int.toNat_natCast,Bool.decide_and]
structure SD.Ok(s:SD)(R:Nat→Nat):Prop where
 n5:s.n≤5
 hut: ∀k,k<s.n→0≤s.hut k∧s.hut k≤3
 fr: ∀k,k<s.n→0≤s.fr k∧s.fr k≤1000
 to: ∀k,k<s.n→0≤s.to k∧s.to k≤200
 slo:1≤s.slo∧s.slo≤s.shi
 shi:s.shi≤6
 pace:0≤s.pace∧s.pace≤3
 w:1≤s.t.nS∧s.t.nS≤4
 R16: ∀k,R k<16
def NSS:List Nat:=[0,1,2,3,4,5,6,7,8,9,10,11,12,13,14,15,16]
def rowI(q:Nat→Int)(k:Nat):List SV:=[.int .i64 (q k)]
def HI(s:SD)(R o:Nat→Nat)(bo:Bool)(co:Nat)(S:Nat)(ob:OB):SHeap:=
 [some .dead,some .dead,some .dead,some (.roa 5 s.n s.F),some (.roc (bcv s R 3 (.osl bo 5 1 s.n co))),some (.roa 1 s.n (rowN o)),some (.roc [.ptr 4 0]),some (.roc [.int .u64 (S:Nat)]),some (.pack NSS ob),some .dead,some .dead,some .dead,some .dead,some .dead,some .dead,some .dead,some .dead]
def onV:SV:= .fn (.func 199) [] [.ptr 6 0,.ptr 18 0,.ptr 17 0,.ptr 7 0,.ptr 21 0,.ptr 20 0]
def HN(s:SD)(R o:Nat→Nat)(bo:Bool)(co:Nat)(S:Nat)(ob:OB)(q:Nat→Int):SHeap:=
 [some .dead,some .dead,some .dead,some (.roa 5 s.n s.F),some (.roc (bcv s R 3 (.osl bo 5 1 s.n co))),some (.roa 1 s.n (rowN o)),some (.roc [.ptr 4 0]),some (.roc [.int .u64 (S:Nat)]),some (.pack NSS ob),some .dead,some .dead,some .dead,some .dead,some .dead,some .dead,some .dead,some .dead,
  some (.roc [.yld 8]),some (.roc [.slice 19 1 0 s.n s.n]),some (.arr 1 s.n s.n (rowI q)),some (.roc [.fn (.func 68) [] []]),some (.roc [onV])]
def run{α γ:Type}(step:γ→α→γ×Bool):List α→γ→γ×Bool
 |[],g=>(g,true)
 |x::l,g=>match step g x with
  |(g',true)=>run step l g'
  |(g',false)=>(g',false)
theorem run_append{α γ:Type}(step:γ→α→γ×Bool): ∀(l l':List α) (g:γ),run step (l++l') g=match run step l g with
  |(g',true)=>run step l' g'
  |(g',false)=>(g',false)
 |[],l',g=>rfl
 |x::l,l',g=>by
  simp only[List.cons_append,run];obtain⟨g',b⟩:=step g x;cases b
  ·rfl
  ·exact run_append step l l' g'
theorem run_one{α γ:Type}(step:γ→α→γ×Bool)(x:α)(g:γ):run step [x] g=step g x:=by
 rw[run];obtain⟨R,hR⟩: ∃R,step g x=R:=⟨_,rfl⟩;rw[hR];obtain⟨g',b⟩:=R;cases b<;>rfl
structure OrdL(s:SD)(L:List Nat)(o:Nat→Nat)(bo:Bool)(co:Nat):Prop where
 len:L.length=s.n
 get: ∀k,k<s.n→L.getD k 0=o k
 lt: ∀k,k<s.n→o k<s.n
 nd:L.Nodup
 vb:(s.n=0∧bo=false∧co=0)∨(0<s.n∧bo=true∧s.n≤co)
theorem OrdL.drop{s:SD}{L:List Nat}{o:Nat→Nat}{bo:Bool}{co:Nat}(h:OrdL s L o bo co){k:Nat}(hk:k<s.n):L.drop k=o k::L.drop (k+1):=by
 have hl:k<L.length:=by rw[h.len];exact hk
 have:=h.get k hk;rw[List.getD_eq_getElem?_getD,List.getElem?_eq_getElem hl]at this;simp only[Option.getD_some]at this;rw[List.drop_eq_getElem_cons hl,this]
open Go Go.Sy Srv Kuhn
def SD.okB(s:SD)(i:Nat):Prop:=(0≤s.hut i∧s.hut i≤3)∧(s.t.isMin (s.fr i)∧s.t.isMin (s.to i))∧(s.fr i<s.to i∧s.to i≤200)∧0≤s.le i∧s.le i≤s.mo i∧s.mo i≤60
def SD.Valid(s:SD):Prop:=s.t.Valid∧(1≤s.slo∧s.slo≤s.shi∧s.shi≤6)∧(0≤s.pace∧s.pace≤3)∧s.n≤5∧ ∀i,i<s.n→s.okB i
noncomputable def SD.okS(s:SD)(i p:Nat):Bool:=(List.range (s.to i-s.fr i).toNat).all fun k=>goodM s.t p (s.le i) (s.mo i) (s.fr i+k)
noncomputable def SD.rightM(s:SD)(i:Nat):Nat:=maskO (fun p=>s.okS i p) s.t.nS
noncomputable def SD.spn(s:SD)(i p:Nat):List (Int×Int):=servF (goodM s.t p (s.le i) (s.mo i)) (s.t.mi (s.t.nM-1)-s.t.mi 0+1).toNat (s.t.mi 0) []
theorem served_ok{s:SD}(hv:s.Valid)(ha:s.t.all≠[]){i p:Nat}(hi:i<s.n)(hp:p<s.t.nS):s.t.servedT (p:Nat) (s.le i) (s.mo i)=⟨s.spn i p,0⟩:=by
 obtain⟨h1,h2,h3,h4,h5⟩:=hv;obtain⟨b1,b2,b3,b4,b5,b6⟩:=h5 i hi;have hpl:s.t.isPl ((p:Nat):Int):=by
  unfold TD.isPl;omega
 unfold TD.servedT;rw[if_neg (fun h=>h h1),if_neg (fun h=>h ⟨hpl,⟨by omega,by omega⟩,⟨by omega,by omega⟩⟩),if_neg ha];rfl
theorem any_ok{s:SD}(hv:s.Valid){i p:Nat}(hi:i<s.n):(List.range (s.spn i p).length).any (inS (s.spn i p) (s.fr i) (s.to i))=s.okS i p:=by
 obtain⟨h1,h2,h3,h4,h5⟩:=hv;obtain⟨b1,⟨⟨m1,m2⟩,⟨m3,m4⟩⟩,⟨b3,b7⟩,b4,b5,b6⟩:=h5 i hi;have hsp:Sps (goodM s.t p (s.le i) (s.mo i)) (s.t.mi 0) (s.t.mi 0+((s.t.mi (s.t.nM-1)-s.t.mi 0+1).toNat:Nat)) (s.spn i p):=servF_sps _ _ _ (Int.le_refl _) (sps_nil _ _);have hw:=hsp.within (a:=s.fr i) (c:=s.to i-1) m1 (by omega) (by omega);rw[Bool.eq_iff_iff];unfold SD.okS;rw[List.any_eq_true,List.all_eq_true];constructor
 ·rintro⟨k,hk,hin⟩;unfold inS at hin;rw[Bool.and_eq_true,decide_eq_true_iff,decide_eq_true_iff]at hin;have:=hw.1 ⟨k,List.mem_range.1 hk,hin.1,hin.2⟩;intro j hj;have hj2:=List.mem_range.1 hj;exact this _ (by omega) (by omega)
 ·intro h;obtain⟨k,hk,h1,h2⟩:=hw.2 fun x hx1 hx2=>by
   have:=h (x-s.fr i).toNat (List.mem_range.2 (by omega));rwa [show s.fr i+((x-s.fr i).toNat:Nat)=x by omega]at this
  refine⟨k,List.mem_range.2 hk,?_⟩;unfold inS;rw[Bool.and_eq_true,decide_eq_true_iff,decide_eq_true_iff];exact⟨h1,h2⟩
theorem mi_bnd{s:SD}(hv:s.t.Valid): ∀m,s.t.isMin m→0≤m∧m≤240:=fun m h=>by
 have h0:=(hv.2.2.2.1 0 (by have:=hv.1;omega)).1;have hl:=(hv.2.2.2.1 (s.t.nM-1) (by have:=hv.1;omega)).1;unfold TD.isMin at h;omega
theorem rightM_lt{s:SD}(hv:s.Valid)(i:Nat):s.rightM i<16:=by
 have:=hv.1.2.1;exact Nat.lt_of_lt_of_le (maskO_lt _ _) (Nat.pow_le_pow_right (n:=2) (by omega) (show s.t.nS≤4 by omega))
theorem SD.Valid.ok{s:SD}(hv:s.Valid):s.Ok s.rightM where
 n5:=hv.2.2.2.1;hut k hk:=(hv.2.2.2.2 k hk).1;fr k hk:=by
  have:=mi_bnd hv.1 _ (hv.2.2.2.2 k hk).2.1.1;omega
 to k hk:=by
  have h1:=mi_bnd hv.1 _ (hv.2.2.2.2 k hk).2.1.2;have h2:=(hv.2.2.2.2 k hk).2.2.1.2;exact⟨h1.1,h2⟩
 slo:=⟨hv.2.1.1,hv.2.1.2.1⟩;shi:=hv.2.1.2.2;pace:=hv.2.2.1;w:=hv.1.2.1;R16 k:=rightM_lt hv k
theorem SD.Valid.vld{s:SD}(hv:s.Valid):(sbR s s.rightM).Vld where
 n:=hv.2.2.2.1;w:=hv.1.2.1;hut k hk:=by
  have:=(hv.2.2.2.2 k hk).1;show(s.hut k).toNat<4;omega
 tm k hk:=by
  have h1:=mi_bnd hv.1 _ (hv.2.2.2.2 k hk).2.1.1;have h2:=(hv.2.2.2.2 k hk).2.2.1;exact⟨h1.1,h2.1,h2.2⟩
 sh:=by
  have:=hv.2.1;show 1≤s.shi∧s.shi≤6;omega
end Go.Proofs.YthnhlkflkidemaaGreatDoor
/-
 Plans of a beach, one by one: from some bathers on. (--fast)
-/
namespace Go.Proofs.YthnhlkflkidemaaGreatDoor
open Go Go.Sy Srv
set_option maxRecDepth 100000
set_option maxHeartbeats 4000000
attribute [local irreducible] CallP CodeP Ent YieldP
set_option maxHeartbeats 16000000
theorem hasU0{S n:Nat}(hS:S<2^63):decide (bitOp .and .u64 ((S:Int).fdiv (2^((n:Nat):Int).toNat)) 1=0)=!S.testBit n:=by
 rw[Int.toNat_natCast];have e:(S:Int).fdiv (2^n)=((S/2^n:Nat):Int):=by
  rw[Int.fdiv_eq_ediv_of_nonneg _ (by have:=Nat.pow_pos (n:=n) (show 0<2 by omega);exact_mod_cast Nat.zero_le _)];norm_cast
 have h1:S/2^n<2^63:=Nat.lt_of_le_of_lt (Nat.div_le_self _ _) hS;have e2:=and_nat (a:=S/2^n) (b:=1) (by omega) (by decide);rw[e];have e3:bitOp .and .u64 ((S/2^n:Nat):Int) 1=((S/2^n&&&1:Nat):Int):=e2;rw[e3,Nat.and_one_is_mod,Nat.testBit_eq_decide_div_mod_eq];by_cases c:S/2^n%2=1
 ·rw[decide_eq_true c,decide_eq_false (by omega)];rfl
 ·rw[decide_eq_false c,decide_eq_true (by omega)];rfl
theorem cpy(q:Nat→Int)(z:Nat→List SV){n m k:Nat}(hk:k<n)(hm:m=n):selL (decide (0≤k∧k<0+m.min n)) (rowI q (0+(k-0))) (z k)=rowI q k:=by
 subst hm;rw[decide_eq_true (by simp only[Nat.min_def];split<;>omega),selL_true,Nat.zero_add,Nat.sub_zero]
theorem sto(q:Nat→Int)(x:Int)(i m:Nat):selL (decide (m=0+((i:Nat):Int).toNat)) (splice (rowI q (0+((i:Nat):Int).toNat)) 0 [.int .i64 x]) (rowI q m)=rowI (updI q i x) m:=by
 rw[Nat.zero_add,Int.toNat_natCast];unfold rowI updI;by_cases c:m=i
 ·rw[decide_eq_true c,selL_true,if_pos c];rfl
 ·rw[decide_eq_false c,selL_false,if_neg c]
theorem run_upto{α γ:Type}{step:γ→α→γ×Bool}{F:Nat→List α}{g g1 g2:γ}{b:Bool}{k:Nat}(h1:run step ((List.range k).flatMap F) g=(g1,true))(h2:run step (F k) g1=(g2,b)):
  run step ((List.range (k+1)).flatMap F) g=(g2,b):=by
 rw[List.range_succ,List.flatMap_append,run_append,h1];simpa using h2
theorem run_stop{α γ:Type}{step:γ→α→γ×Bool}{F:Nat→List α}{g g2:γ}{k w:Nat}(hk:k≤w)(h1:run step ((List.range k).flatMap F) g=(g2,false)):
  run step ((List.range w).flatMap F) g=(g2,false):=by
 obtain⟨d,rfl⟩: ∃d,w=k+d:=⟨w-k,by omega⟩;rw[List.range_add,List.flatMap_append,run_append,h1]
theorem t199(s:SD)(R o:Nat→Nat)(bo:Bool)(co:Nat)(hs:s.Ok R)(L:List Nat)(hL:OrdL s L o bo co)(S:Nat)(hS:S<2^63){γ:Type}(step:γ→(Nat→Int)→γ×Bool)(C:γ→Bool→OB):
  ∀(r d:Nat) (st:Hst) (p q:Nat→Int) (g:γ),d+r=s.n→HstOk st→(∀i,i<s.n→(i∈L.drop d→S.testBit i=false)→q i=p i)→
  (∀g x,x∈(sbR s R).go (fun i=>S.testBit i) (L.drop d) st p→YieldP Tryz.prog 8 [.slice 17 1 0 s.n s.n] (HI s R o bo co S (C g true)++[some (.arr 1 s.n s.n (rowI x))]) (Ret (.bool (step g x).2) (HI s R o bo co S (C (step g x).1 (step g x).2)++[some .dead,some .dead])))→
  CallP Tryz.prog 199 [.int .i64 (d:Nat),.agg (stV st),.ptr 6 0,.ptr 18 0,.ptr 17 0,.ptr 7 0,.ptr 21 0,.ptr 20 0] (HN s R o bo co S (C g true) q)
   (fun ce h'=> ∃q',(∀i,i<s.n→(i∈L.drop d→S.testBit i=false)→q' i=q i)∧ce= .ret (.bool (run step ((sbR s R).go (fun i=>S.testBit i) (L.drop d) st p) g).2)∧
    h'=HN s R o bo co S (C (run step ((sbR s R).go (fun i=>S.testBit i) (L.drop d) st p) g).1 (run step ((sbR s R).go (fun i=>S.testBit i) (L.drop d) st p) g).2) q'):=by
 intro r
 induction r with
 |zero=>
  intro d st p q g hd hst hq hy
  obtain rfl:d=s.n:=by omega
  have hl:L.drop s.n=[]:=List.drop_eq_nil_of_le (by rw[hL.len];exact Nat.le_refl _)
  rw[hl]at hq hy⊢
  have hyg:=hy g p (by rw[SB.go];exact List.mem_singleton.2 rfl)
  rw[SB.go,run_one]
  obtain⟨Q,hQ⟩: ∃Q,step g p=Q:=⟨_,rfl⟩
  rw[hQ]at hyg⊢
  obtain⟨g',b⟩:=Q
  simp only at hyg⊢
  have hn5:=hs.n5
  refine callK (E:=E) E_ok Tryz.func199 rfl ?_
  (repeat' first|exact aq|refine aN ?_ ?_|exact tU)
  all_goals try exact dd
  ·intro hc
   (repeat' first|exact aq|refine aN ?_ ?_|exact tU)
   all_goals try exact dd
   ·exact fun k hk=>rfl
   ·show(8:Int)*((s.n:Nat):Int)≤281474976710656
    omega
   refine hyg.use [0,1,2,3,4,5,6,7,8,9,10,11,12,13,14,15,16,23] ?_ ?_ rfl
   ·(repeat' first|exact aq|refine aN ?_ ?_|exact tU)
    refine⟨_,_,⟨q,fun _ _ _=>rfl,rfl,rfl⟩,?_⟩
    exact ent_tau [0,1,2,3,4,5,6,7,8,9,10,11,12,13,14,15,16,17,18,19,20,21] ⟨fPp,tMm,rfl⟩
   ·(repeat' first|exact fp|refine aN ?_ ?_)
    intro k hk
    have hk:k<s.n:=hk
    refine(cpy q (fun _=>[ti3.zero]) hk rfl).trans ?_
    show rowI q k=rowI p k
    unfold rowI
    rw[hq k hk (fun h=>absurd h List.not_mem_nil)]
  ·intro hc
   exact absurd rfl (of_decide_eq_false hc)
 |succ r ih=>
  intro d st p q g hd hst hq hy
  have hdn:d<s.n:=by omega
  have hdr:=hL.drop hdn
  have hin:=hL.lt d hdn
  obtain⟨i,hi⟩: ∃i,o d=i:=⟨_,rfl⟩
  have ed:=z1 d
  have ei:=z1 i
  have hn5:=hs.n5
  refine callK (E:=E) E_ok Tryz.func199 rfl ?_
  (repeat' first|exact aq|refine aN ?_ ?_|exact tU)
  all_goals try exact dd
  ·intro hc
   exact absurd (of_decide_eq_true hc) (by omega)
  ·intro hc
   (repeat' first|exact aq|refine aN ?_ ?_|exact tU)
   all_goals try exact dd
   ·refine u0 ?_
    show((o (0+((d:Nat):Int).toNat):Nat):Int)<64
    rw[ed]
    omega
   ·intro hb
    rw[ed,hi,hasU0 hS]at hb
    have hb':S.testBit i=false:=by simpa using hb
    have hgo:(sbR s R).go (fun i=>S.testBit i) (L.drop d) st p=(sbR s R).go (fun i=>S.testBit i) (L.drop (d+1)) st p:=by
     rw[hdr,hi,SB.go,if_neg (by rw[hb'];exact Bool.noConfusion)]
    rw[hgo]at hy⊢
    have hmem: ∀j,(j∈L.drop d→S.testBit j=false)↔(j∈L.drop (d+1)→S.testBit j=false):=fun j=>by
     rw[hdr,hi]
     constructor
     ·exact fun h hj=>h (List.mem_cons_of_mem _ hj)
     ·intro h hj
      rcases List.mem_cons.1 hj with e|hj
      ·rw[e]
       exact hb'
      ·exact h hj
    have c:=ih (d+1) st p q g (by omega) hst (fun j hj h=>hq j hj ((hmem j).2 h)) hy
    (repeat' first|exact aq|refine aN ?_ ?_|exact tU)
    all_goals try exact dd
    refine CallP.frameH c [0,1,2,3,4,5,6,7,8,9,10,11,12,13,14,15,16,17,18,19,20,21] (fPp) rfl ?_
    rintro ce h' ⟨q',hq',rfl,rfl⟩
    refine⟨rfl,?_⟩
    (repeat' first|exact aq|refine aN ?_ ?_|exact tU)
    refine⟨_,_,⟨q',fun j hj h=>hq' j hj ((hmem j).1 h),rfl,rfl⟩,?_⟩
    exact ent_tau [0,1,2,3,4,5,6,7,8,9,10,11,12,13,14,15,16,17,18,19,20,21] ⟨fPp,tMm,rfl⟩
   ·intro hb
    (repeat' first|exact aq|refine aN ?_ ?_|exact tU)
    all_goals try exact dd
    ·refine u0 ?_
     rw[ed,hi,ei]
     omega
    ·refine u0 ?_
     rw[ed,hi]
     omega
    rw[ed,hi,hasU0 hS]at hb
    have hb':S.testBit i=true:=by simpa using hb
    obtain⟨F,hF⟩: ∃F:Nat→List (Nat→Int),F=fun(k:Nat)=>if(sbR s R).brk i (k:Int) (st (s.hut i).toNat)=0 then(sbR s R).go (fun i=>S.testBit i) (L.drop (d+1)) (upS st (s.hut i).toNat ((k:Int),s.to i)) (updI p i (k:Int))else []:=⟨_,rfl⟩
    have hgo:(sbR s R).go (fun i=>S.testBit i) (L.drop d) st p=(List.range s.t.nS).flatMap F:=by
     rw[hdr,hi,SB.go,if_pos hb',hF]
     rfl
    rw[hgo]at hy⊢
    have eX:0+((o (0+((d:Nat):Int).toNat):Nat):Int).toNat=i:=by rw[ed,hi,ei]
    have hin':i<s.n:=by rw[←hi];exact hin
    have hhut:=hs.hut i hin'
    have hto:=hs.to i hin'
    refine loopP E_ok [0,2,3,4,5,6,7,9,10,12,13,63] (fun x:Nat×(Nat→Int)×γ=>[(64,.int .i64 (x.1:Nat))])
     (fun x _=>HN s R o bo co S (C x.2.2 true) x.2.1++[some (.cells (stV st)),some (.cells (s.F (0+((o (0+((d:Nat):Int).toNat):Nat):Int).toNat)))])
     (fun x=>x.1≤s.t.nS∧run step ((List.range x.1).flatMap F) g=(x.2.2,true)∧ ∀j,j<s.n→(j∈L.drop d→S.testBit j=false)→x.2.1 j=q j) (fun x=>s.t.nS-x.1) (0,q,g) ⟨Nat.zero_le _,rfl,fun _ _ _=>rfl⟩ ?_ ?_
    ·exact ent_tau [0,1,2,3,4,5,6,7,8,9,10,11,12,13,14,15,16,17,18,19,20,21,22,23] ⟨fPp,tMm,rfl⟩
    rintro⟨k,q',g'⟩ ⟨hk,hg,hq'⟩
    dsimp only at hk hg hq'
    refine And.intro ?_ (And.intro (fun hc2=>?_) (fun hc2=>?_))
    ·(repeat' first|exact aq|refine aN ?_ ?_|exact tU)
    ·have hk2:k<s.t.nS:=by
      have:=of_decide_eq_true hc2
      omega
     have hw4:=hs.w
     obtain⟨B,hB⟩: ∃B,brkS s R i k (st (s.hut i).toNat)=B:=⟨_,rfl⟩
     have hFk:F k=if B=0 then(sbR s R).go (fun i=>S.testBit i) (L.drop (d+1)) (upS st (s.hut i).toNat ((k:Int),s.to i)) (updI p i (k:Int))else []:=by
      rw[hF,←hB,←brk_sb]
     have c68:CallP Tryz.prog 68 [.ptr 4 0,.int .i64 ((o (0+((d:Nat):Int).toNat):Nat):Int),.int .i64 (k:Nat),.agg [.int .i64 ((stI st).getD ((s.hut (0+((o (0+((d:Nat):Int).toNat):Nat):Int).toNat)).toNat*2+0) 0),.int .i64 ((stI st).getD ((s.hut (0+((o (0+((d:Nat):Int).toNat):Nat):Int).toNat)).toNat*2+1) 0)]] (HB s R o bo co) (Ret (.int .i64 (B:Nat)) (HB s R o bo co)):=by
      rw[eX,ed,hi,←hB]
      have hx:=t68 s R o bo co i k hin' hn5 (by omega) (hs.R16 i) ⟨by have:=hs.slo;omega,hs.shi⟩ hs.fr (st (s.hut i).toNat) (hst _).1 (hst _).2
      rw[←st_get st hhut]at hx⊢
      exact hx
     (repeat' first|exact aq|refine aN ?_ ?_|exact tU)
     all_goals try exact dd
     refine drawP E_ok [22,23] pl199_12 (by kernel_rfl) ?_
     (repeat' first|exact aq|refine aN ?_ ?_|exact tU)
     all_goals try exact dd
     ·refine u0 ?_
      rw[eX]
      show(s.hut i).toNat*2+(0+2)≤8
      omega
     ·refine u0 ?_
      rw[eX]
      exact hhut.1
     ·refine u0 ?_
      rw[eX]
      show s.hut i<4
      omega
     refine c68.use [0,1,2,3,4,5] ?_ (fPp) rfl
     cases B with
     |zero=>
      rw[if_pos rfl]at hFk
      have eS:stV (upS st (s.hut i).toNat ((k:Int),s.to i))=(List.range 8).map fun m=>SV.int .i64 (if(s.hut (0+((o (0+((d:Nat):Int).toNat):Nat):Int).toNat)).toNat*2+0≤m∧m<(s.hut (0+((o (0+((d:Nat):Int).toNat):Nat):Int).toNat)).toNat*2+0+[(k:Int),s.to (0+((o (0+((d:Nat):Int).toNat):Nat):Int).toNat)].length then [(k:Int),s.to (0+((o (0+((d:Nat):Int).toNat):Nat):Int).toNat)].getD (m-((s.hut (0+((o (0+((d:Nat):Int).toNat):Nat):Int).toNat)).toNat*2+0)) 0 else(stI st).getD m 0):=by
       rw[eX]
       exact st_set st hhut _ _
      have hmem: ∀j,j≠i→(j∈L.drop (d+1)→S.testBit j=false)→(j∈L.drop d→S.testBit j=false):=fun j hji h hj=>by
       rw[hdr,hi]at hj
       rcases List.mem_cons.1 hj with e|hj
       ·exact absurd e hji
       ·exact h hj
      have hnot: ∀j,(j∈L.drop d→S.testBit j=false)→j≠i∧(j∈L.drop (d+1)→S.testBit j=false):=fun j h=>by
       refine⟨fun e=>?_,fun hj=>h (by rw[hdr];exact List.mem_cons_of_mem _ hj)⟩
       have:=h (by rw[hdr,hi,e];exact List.mem_cons_self)
       rw[e,hb']at this
       exact Bool.noConfusion this
      have c:=ih (d+1) (upS st (s.hut i).toNat ((k:Int),s.to i)) (updI p i (k:Int)) (updI q' i (k:Int)) g' (by omega) (hst.up ⟨by omega,by omega⟩ ⟨by omega,hto.2⟩)
       (fun j hj h=>by
        unfold updI
        by_cases c:j=i
        ·rw[if_pos c,if_pos c]
        ·rw[if_neg c,if_neg c,hq' j hj (hmem j c h)]
         exact hq j hj (hmem j c h))
       (fun g x hx=>hy g x (List.mem_flatMap.2 ⟨k,List.mem_range.2 hk2,by rw[hFk];exact hx⟩))
      rw[eS,←hFk]at c
      obtain⟨Q,hQ⟩: ∃Q,run step (F k) g'=Q:=⟨_,rfl⟩
      rw[hQ]at c
      obtain⟨g2,b⟩:=Q
      simp only at c
      have hag: ∀q2:Nat→Int,(∀j,j<s.n→(j∈L.drop (d+1)→S.testBit j=false)→q2 j=updI q' i (k:Int) j)→ ∀j,j<s.n→(j∈L.drop d→S.testBit j=false)→q2 j=q j:=fun q2 h2 j hj h=>by
       obtain⟨n1,n2⟩:=hnot j h
       rw[h2 j hj n2]
       unfold updI
       rw[if_neg n1]
       exact hq' j hj h
      all_goals(repeat' first|exact aq|refine aN ?_ ?_|exact tU)
      all_goals try exact dd
      all_goals intro hn
      all_goals first|exact absurd hn (by decide)|(cases hn;done)|skip
      (repeat' first|exact aq|refine aN ?_ ?_|exact tU)
      all_goals try exact dd
      ·rw[eX]
       show(s.hut i).toNat*2+0+2≤8
       omega
      ·refine u0 ?_
       rw[eX]
       exact hhut.1
      ·refine u0 ?_
       rw[eX]
       show s.hut i<4
       omega
      refine CallP.frameH c [0,1,2,3,4,5,6,7,8,9,10,11,12,13,14,15,16,17,18,19,20,21] ?_ rfl ?_
      ·(repeat' first|exact fp|refine aN ?_ ?_)
       intro m hm
       refine(sto q' k (o (0+((d:Nat):Int).toNat)) m).trans ?_
       rw[ed,hi]
       rfl
      rintro ce h' ⟨q2,hq2,rfl,rfl⟩
      refine⟨rfl,?_⟩
      cases b with
      |false=>
       have hfin:=run_stop (show k+1≤s.t.nS by omega) (run_upto hg hQ)
       all_goals(repeat' first|exact aq|refine aN ?_ ?_|exact tU)
       all_goals try exact dd
       all_goals intro hr
       all_goals first|exact absurd hr (by decide)|(cases hr;done)|skip
       all_goals(repeat' first|exact aq|refine aN ?_ ?_|exact tU)
       all_goals try exact dd
       refine⟨.ret (.bool false),HN s R o bo co S (C g2 false) q2,⟨q2,hag q2 hq2,by rw[hfin],by rw[hfin]⟩,?_⟩
       exact ent_tau [0,1,2,3,4,5,6,7,8,9,10,11,12,13,14,15,16,17,18,19,20,21] ⟨fPp,tMm,rfl⟩
      |true=>
       all_goals(repeat' first|exact aq|refine aN ?_ ?_|exact tU)
       all_goals try exact dd
       all_goals intro hr
       all_goals first|exact absurd hr (by decide)|(cases hr;done)|skip
       all_goals(repeat' first|exact aq|refine aN ?_ ?_|exact tU)
       all_goals try exact dd
       refine⟨(k+1,q2,g2),⟨hk2,run_upto hg hQ,hag q2 hq2⟩,by simp only;omega,?_⟩
       exact ent_tau [0,1,2,3,4,5,6,7,8,9,10,11,12,13,14,15,16,17,18,19,20,21,22,23] ⟨fPp,tMm,rfl⟩
     |succ B=>
      rw[if_neg (Nat.succ_ne_zero B)]at hFk
      all_goals(repeat' first|exact aq|refine aN ?_ ?_|exact tU)
      all_goals try exact dd
      all_goals intro hn
      all_goals first|exact absurd hn (by decide)|(cases hn;done)|skip
      (repeat' first|exact aq|refine aN ?_ ?_|exact tU)
      all_goals try exact dd
      refine⟨(k+1,q',g'),⟨hk2,run_upto hg (by rw[hFk];rfl),hq'⟩,by simp only;omega,?_⟩
      exact ent_tau [0,1,2,3,4,5,6,7,8,9,10,11,12,13,14,15,16,17,18,19,20,21,22,23] ⟨fPp,tMm,rfl⟩
    ·have hkw:k=s.t.nS:=by
      have:=of_decide_eq_false hc2
      simp only at this
      omega
     subst hkw
     rw[hg]
     (repeat' first|exact aq|refine aN ?_ ?_|exact tU)
     all_goals try exact dd
     refine⟨_,_,⟨q',hq',rfl,rfl⟩,?_⟩
     exact ent_tau [0,1,2,3,4,5,6,7,8,9,10,11,12,13,14,15,16,17,18,19,20,21] ⟨fPp,tMm,rfl⟩
def plansL(s:SD)(R:Nat→Nat)(L:List Nat)(S:Nat):List (Nat→Int):=(sbR s R).go (fun i=>S.testBit i) L begS (fun _=>0)
theorem t198(s:SD)(R o:Nat→Nat)(bo:Bool)(co:Nat)(hs:s.Ok R)(L:List Nat)(hL:OrdL s L o bo co)(S:Nat)(hS:S<2^63){γ:Type}(step:γ→(Nat→Int)→γ×Bool)(C:γ→Bool→OB)
  (hy: ∀g x,x∈plansL s R L S→YieldP Tryz.prog 8 [.slice 17 1 0 s.n s.n] (HI s R o bo co S (C g true)++[some (.arr 1 s.n s.n (rowI x))]) (Ret (.bool (step g x).2) (HI s R o bo co S (C (step g x).1 (step g x).2)++[some .dead,some .dead]))) (g:γ):
  CallP Tryz.prog 198 [.yld 8,.ptr 6 0,.ptr 7 0] (HI s R o bo co S (C g true)) (Ret (.tup []) (HI s R o bo co S (C (run step (plansL s R L S) g).1 (run step (plansL s R L S) g).2))):=by
 have c:=t199 s R o bo co hs L hL S hS step C s.n 0 begS (fun _=>0) (fun _=>0) g (by omega) begOk (fun _ _ _=>rfl) hy
 have hn5:=hs.n5
 have e:(sbR s R).go (fun i=>S.testBit i) (L.drop 0) begS (fun _=>0)=plansL s R L S:=rfl
 rw[e]at c
 obtain⟨Q,hQ⟩: ∃Q,run step (plansL s R L S) g=Q:=⟨_,rfl⟩
 rw[hQ]at c⊢
 obtain⟨g2,b⟩:=Q
 simp only at c⊢
 refine callR (E:=E) E_ok Tryz.func198 rfl ?_
 (repeat' first|exact aq|refine aN ?_ ?_|exact tU)
 all_goals try exact dd
 all_goals first|(show(8:Int)*((s.n:Nat):Int)≤281474976710656;omega)|skip
 refine drawP E_ok [21] pl198_5 (by kernel_rfl) ?_
 (repeat' first|exact aq|refine aN ?_ ?_|exact tU)
 all_goals try exact dd
 refine t74.use [] ?_ trivial rfl
 (repeat' first|exact aq|refine aN ?_ ?_|exact tU)
 all_goals try exact dd
 refine CallP.frameH c [0,1,2,3,4,5,6,7,8,9,10,11,12,13,14,15,16,17,19,18,20,21] (fPp) rfl ?_
 rintro ce h' ⟨q',hq',rfl,rfl⟩
 refine⟨rfl,?_⟩
 (repeat' first|exact aq|refine aN ?_ ?_|exact tU)
 all_goals try exact dd
 exact ent_tau [0,1,2,3,4,5,6,7,8,9,10,11,12,13,14,15,16] ⟨fPp,tMm,rfl⟩
def findRFS:Code→Option (Array Nat×Code×Code)
 | .rangeFunc _ ps a b=>some (ps,a,b)
 | .seq a b=>match findRFS a with
  |some r=>some r
  |none=>findRFS b
 | .block _ c=>findRFS c
 | .loop c=>findRFS c
 | .scope c=>findRFS c
 |_=>none
noncomputable def asS(f:Func):Code:=match f.body with
 |some c=>match findRFS c with
  |some r=>r.2.1
  |none=> .skip
 |none=> .skip
noncomputable def boS(f:Func):Code:=match f.body with
 |some c=>match findRFS c with
  |some r=>r.2.2
  |none=> .skip
 |none=> .skip
noncomputable def L88(st:LoopState)(p:Option Code):SObj:= .loopr [none,none,none,none,some (.ptr 9 0),none,none,none,none] #[8] (asS Tryz.f88) (boS Tryz.f88) st p
noncomputable def P88(a:Bool)(st:LoopState)(p:Option Code):List (Nat×SObj):=[(8,L88 st p),(9,.cells [.bool a])]
noncomputable def C88(g b:Bool):OB:=packR (P88 g (bif b then .ready else .done) (bif b then none else some .ret))
noncomputable def HU88(s:SD)(R o:Nat→Nat)(bo:Bool)(co S:Nat)(a:Bool)(st:LoopState)(p:Option Code)(pl:SObj):SHeap:=
 [some .dead,some .dead,some .dead,some (.roa 5 s.n s.F),some (.roc (bcv s R 3 (.osl bo 5 1 s.n co))),some (.roa 1 s.n (rowN o)),some (.roc [.ptr 4 0]),some (.roc [.int .u64 (S:Nat)]),some (L88 st p),some (.cells [.bool a]),some .dead,some .dead,some .dead,some .dead,some .dead,some .dead,some .dead,some pl]
def step88(_:Bool)(_:Nat→Int):Bool×Bool:=(true,false)
theorem pk88(s:SD)(R o:Nat→Nat)(bo:Bool)(co S:Nat)(T:Tm):Ent 18 ⟨T,HU88 s R o bo co S true .done (some .ret) .dead,[]⟩ ⟨T,HI s R o bo co S (C88 true false)++[some .dead],[]⟩:=
 entPack (n:=18) (T:=T) (H:=HU88 s R o bo co S true .done (some .ret) .dead) (D:=[]) NSS (P88 true .done (some .ret)) 8 (fPp) rfl rfl
theorem y88(s:SD)(R o:Nat→Nat)(bo:Bool)(co S:Nat)(g:Bool)(x:Nat→Int):
  YieldP Tryz.prog 8 [.slice 17 1 0 s.n s.n] (HI s R o bo co S (C88 g true)++[some (.arr 1 s.n s.n (rowI x))]) (Ret (.bool false) (HI s R o bo co S (C88 true false)++[some .dead,some .dead])):=by
 refine YieldP.pre (entUnpack (n:=18) (T:=argT [.slice 17 1 0 s.n s.n]) (H:=HI s R o bo co S (C88 g true)++[some (SObj.arr 1 s.n s.n (rowI x))]) (D:=[]) NSS (P88 g .ready none) 8 rfl rfl rfl ⟨trivial,trivial,trivial⟩) (show(8:Nat)<18 by decide) ?_;refine YieldP.ent (roundP E_ok rfl rfl fun l=>?_);(repeat' first|exact aq|refine aN ?_ ?_|exact tU);all_goals try exact dd
 refine⟨_,_,⟨rfl,rfl⟩,?_⟩;refine Ent.trans ?_ ((pk88 s R o bo co S [some (none,.bool false)]).trans (ent_tau [0,1,2,3,4,5,6,7,8,9,10,11,12,13,14,15,16,17,0] ⟨fPp,tMm,rfl⟩));exact ent_tau [0,1,2,3,4,5,6,7,8,9,10,11,12,13,14,15,16,17] ⟨fPp,tMm,rfl⟩
noncomputable def G88(s:SD)(R o:Nat→Nat)(bo:Bool)(co S:Nat)(a:Bool)(st:LoopState)(p:Option Code):SHeap:=
 [some .dead,some .dead,some .dead,some (.roa 5 s.n s.F),some (.roc (bcv s R 3 (.osl bo 5 1 s.n co))),some (.roa 1 s.n (rowN o)),some (.roc [.ptr 4 0]),some (.roc [.int .u64 (S:Nat)]),some (L88 st p),some (.cells [.bool a])]
def S10:List Nat:=[0,1,2,3,4,5,6,7,8,9,0,0,0,0,0,0,0]
theorem run88: ∀(l:List (Nat→Int)) (g:Bool),run step88 l g=match l with
  |[]=>(g,true)
  |_=>(true,false)
 |[],g=>rfl
 |x::l,g=>rfl
theorem r88(s:SD)(R o:Nat→Nat)(bo:Bool)(co:Nat)(hs:s.Ok R)(L:List Nat)(hL:OrdL s L o bo co)(S:Nat)(hS:S<2^63)(e:Bool)(he:(plansL s R L S).isEmpty=e):
  CallP Tryz.prog 198 [.yld 8,.ptr 6 0,.ptr 7 0] (G88 s R o bo co S false .ready none) (Ret (.tup []) (G88 s R o bo co S (!e) (bif e then .ready else .done) (bif e then none else some .ret))):=by
 have c:=t198 s R o bo co hs L hL S hS step88 C88 (fun g x _=>y88 s R o bo co S g x) false;rw[run88]at c;have h1:CallP Tryz.prog 198 [.yld 8,.ptr 6 0,.ptr 7 0] ([some .dead,some .dead,some .dead,some (.roa 5 s.n s.F),some (.roc (bcv s R 3 (.osl bo 5 1 s.n co))),some (.roa 1 s.n (rowN o)),some (.roc [.ptr 4 0]),some (.roc [.int .u64 (S:Nat)]),some (.pack S10 (C88 false true)),some .dead])
   (Ret (.tup []) ([some .dead,some .dead,some .dead,some (.roa 5 s.n s.F),some (.roc (bcv s R 3 (.osl bo 5 1 s.n co))),some (.roa 1 s.n (rowN o)),some (.roc [.ptr 4 0]),some (.roc [.int .u64 (S:Nat)]),some (.pack S10 (C88 (!e) e)),some .dead])):=by
  cases hp:plansL s R L S with
  |nil=>
   rw[hp]at c he;subst he;refine c.use S10 ?_ (fPp) rfl;exact⟨rfl,rfl⟩
  |cons x l=>
   rw[hp]at c he;subst he;refine c.use S10 ?_ (fPp) rfl;exact⟨rfl,rfl⟩
 refine CallP.pre (entPack (n:=10) (T:=argT [.yld 8,.ptr 6 0,.ptr 7 0]) (H:=G88 s R o bo co S false .ready none) (D:=[]) S10 (P88 false .ready none) 8 (fPp) rfl rfl) ?_;refine CallP.entR h1 ?_;cases e
 ·exact entUnpack (n:=10) (T:=[some (none,.tup [])]) (H:=[some .dead,some .dead,some .dead,some (.roa 5 s.n s.F),some (.roc (bcv s R 3 (.osl bo 5 1 s.n co))),some (.roa 1 s.n (rowN o)),some (.roc [.ptr 4 0]),some (.roc [.int .u64 (S:Nat)]),some (.pack S10 (C88 true false)),some .dead]) (D:=[]) S10 (P88 true .done (some .ret)) 8 rfl rfl rfl ⟨trivial,trivial,trivial⟩
 ·exact entUnpack (n:=10) (T:=[some (none,.tup [])]) (H:=[some .dead,some .dead,some .dead,some (.roa 5 s.n s.F),some (.roc (bcv s R 3 (.osl bo 5 1 s.n co))),some (.roa 1 s.n (rowN o)),some (.roc [.ptr 4 0]),some (.roc [.int .u64 (S:Nat)]),some (.pack S10 (C88 false true)),some .dead]) (D:=[]) S10 (P88 false .ready none) 8 rfl rfl rfl ⟨trivial,trivial,trivial⟩
theorem t88(s:SD)(R o:Nat→Nat)(bo:Bool)(co:Nat)(hs:s.Ok R)(L:List Nat)(hL:OrdL s L o bo co)(S:Nat)(hS:S<2^63):
  CallP Tryz.prog 88 [.ptr 4 0,.int .u64 (S:Nat)] (HB s R o bo co) (Ret (.bool (!(plansL s R L S).isEmpty)) (HB s R o bo co)):=by
 obtain⟨e,he⟩: ∃e,(plansL s R L S).isEmpty=e:=⟨_,rfl⟩;have r:=r88 s R o bo co hs L hL S hS e he;rw[he];refine callM (E:=E) E_ok Tryz.func88 rfl ?_;(repeat' first|exact aq|refine aN ?_ ?_|exact tU);all_goals try exact dd
 refine(t148 (S:Nat)).use [4] ?_ (fPp) rfl;(repeat' first|exact aq|refine aN ?_ ?_|exact tU);all_goals try exact dd
 refine rangeP E_ok rfl rfl ?_;cases e
 ·refine r.use [0,1,2,3,4,5,7,8,10,6] ?_ (fPp) rfl;refine⟨by decide,?_⟩;refine codeP_ret ?_;refine And.intro trivial ?_;refine And.intro (fun o h=>h) ?_;refine And.intro ?_ ⟨_,_,⟨rfl,rfl⟩,?_⟩;all_goals first|exact ent_tau [0,1,2,3,4,5] ⟨fPp,tMm,rfl⟩|simp[AllP,under,gB,wB,inR_iff,IntKind.bits]
 ·refine r.use [0,1,2,3,4,5,7,8,10,6] ?_ (fPp) rfl;refine⟨by decide,?_⟩;(repeat' first|exact aq|refine aN ?_ ?_|exact tU)
  ·exact fun o h=>h
  refine⟨_,_,⟨rfl,rfl⟩,?_⟩;exact ent_tau [0,1,2,3,4,5] ⟨fPp,tMm,rfl⟩
end Go.Proofs.YthnhlkflkidemaaGreatDoor
