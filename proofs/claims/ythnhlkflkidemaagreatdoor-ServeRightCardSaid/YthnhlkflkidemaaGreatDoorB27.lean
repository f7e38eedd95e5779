/-
  Parts: V8, V9, S7, S8, V10, V19, HoP3.
-/
import Derived.Test.YthnhlkflkidemaaGreatDoorB26
import Derived.Test.YthnhlkflkidemaaGreatDoorB25
import Derived.Test.YthnhlkflkidemaaGreatDoorB22
import Derived.Test.YthnhlkflkidemaaGreatDoorB20
set_option linter.unusedVariables false
set_option linter.unusedSimpArgs false
/-
 All bathers of a plan are handed over as they come. (--fast)
-/
namespace Go.Proofs.YthnhlkflkidemaaGreatDoor
open Go Go.Sy Srv
set_option maxRecDepth 100000
set_option maxHeartbeats 4000000
attribute [local irreducible] CallP CodeP Ent YieldP
set_option maxHeartbeats 16000000
def NSR:List Nat:=[0,1,2,3,4,5,6,7,8,9,10,11,12,13,14,15,16,17]
def HR(s:SD)(R o:Nat→Nat)(bo:Bool)(co:Nat)(pb:Bool)(pc:Nat)(p:Nat→Int)(ob:OB):SHeap:=
 [some .dead,some .dead,some .dead,some (.roa 5 s.n s.F),some (.roc (bcv s R 3 (.osl bo 5 1 s.n co))),some (.roa 1 s.n (rowN o)),some (.roc [.ptr 4 0]),some (.roc [.osl pb 8 1 s.n pc]),some (.roa 1 s.n (rowI p)),some (.pack NSR ob),some .dead,some .dead,some .dead,some .dead,some .dead,some .dead,some .dead,some .dead]
def runR{γ:Type}(s:SD)(p:Nat→Int)(step:γ→Nat→Int×Int→γ):List Nat→Hst→γ→γ
 |[],_,g=>g
 |i::l,st,g=>runR s p step l (upS st (s.hut i).toNat (p i,s.to i)) (step g i (st (s.hut i).toNat))
theorem t145(s:SD)(R o:Nat→Nat)(bo:Bool)(co:Nat)(hs:s.Ok R)(L:List Nat)(hL:OrdL s L o bo co)(pb:Bool)(pc:Nat)(p:Nat→Int)(hp: ∀i,i<s.n→0≤p i∧p i≤3){γ:Type}(step:γ→Nat→Int×Int→γ)(C:γ→OB)
  (J:Nat→γ→Prop) (hJ: ∀d g i v,d<s.n→J d g→i<s.n→((0≤v.1∧v.1≤3)∧(-1≤v.2∧v.2≤200))→J (d+1) (step g i v))
  (hy: ∀d g i v,d<s.n→J d g→i<s.n→((0≤v.1∧v.1≤3)∧(-1≤v.2∧v.2≤200))→YieldP Tryz.prog 9 [.int .i64 (i:Nat),.agg [.int .i64 v.1,.int .i64 v.2]] (HR s R o bo co pb pc p (C g)) (Ret (.bool true) (HR s R o bo co pb pc p (C (step g i v))))) (g:γ) (hg0:J 0 g):
  CallP Tryz.prog 145 [.yld 9,.ptr 6 0,.ptr 7 0] (HR s R o bo co pb pc p (C g)) (Ret (.tup []) (HR s R o bo co pb pc p (C (runR s p step L begS g)))):=by
 have hn5:=hs.n5
 obtain⟨G,hG⟩: ∃G,runR s p step L begS g=G:=⟨_,rfl⟩
 rw[hG]
 refine callR (E:=E) E_ok Tryz.func145 rfl ?_
 (repeat' first|exact aq|refine aN ?_ ?_|exact tU)
 all_goals try exact dd
 refine t74.use [] ?_ trivial rfl
 (repeat' first|exact aq|refine aN ?_ ?_|exact tU)
 all_goals try exact dd
 refine loopP E_ok [0,1,2,4,12,13] (fun x:Nat×Hst×γ=>[(14,.int .i64 (x.1:Nat))]) (fun x _=>HR s R o bo co pb pc p (C x.2.2)++[some (.cells (stV x.2.1))])
  (fun x=>x.1≤s.n∧HstOk x.2.1∧J x.1 x.2.2∧runR s p step (L.drop x.1) x.2.1 x.2.2=G) (fun x=>s.n-x.1) (0,begS,g) ⟨Nat.zero_le _,begOk,hg0,hG⟩ ?_ ?_
 ·exact ent_tau [0,1,2,3,4,5,6,7,8,9,10,11,12,13,14,15,16,17,18] ⟨fPp,tMm,rfl⟩
 rintro⟨d,st,g'⟩ ⟨hd,hst,hj,hg⟩
 dsimp only at hd hst hj hg
 refine And.intro ?_ (And.intro (fun hc=>?_) (fun hc=>?_))
 ·(repeat' first|exact aq|refine aN ?_ ?_|exact tU)
 ·have hdn:d<s.n:=by
   have:=of_decide_eq_true hc
   simp only at this
   omega
  have hdr:=hL.drop hdn
  have hin:=hL.lt d hdn
  have ed:=z1 d
  obtain⟨i,hi⟩: ∃i,o d=i:=⟨_,rfl⟩
  have ei:=z1 i
  have eX:0+((o (0+((d:Nat):Int).toNat):Nat):Int).toNat=i:=by rw[ed,hi,ei]
  have hin':i<s.n:=by rw[←hi];exact hin
  have hhut:=hs.hut i hin'
  have hto:=hs.to i hin'
  rw[hdr,hi,runR]at hg
  obtain⟨g2,hg2⟩: ∃g2,step g' i (st (s.hut i).toNat)=g2:=⟨_,rfl⟩
  rw[hg2]at hg
  have hj2:=hJ d g' i (st (s.hut i).toNat) hdn hj hin' (hst _)
  rw[hg2]at hj2
  have cX:YieldP Tryz.prog 9 [.int .i64 ((o (0+((d:Nat):Int).toNat):Nat):Int),.agg [.int .i64 ((stI st).getD ((s.hut (0+((o (0+((d:Nat):Int).toNat):Nat):Int).toNat)).toNat*2+0) 0),.int .i64 ((stI st).getD ((s.hut (0+((o (0+((d:Nat):Int).toNat):Nat):Int).toNat)).toNat*2+1) 0)]] (HR s R o bo co pb pc p (C g')) (Ret (.bool true) (HR s R o bo co pb pc p (C g2))):=by
   rw[eX,ed,hi]
   have c:=hy d g' i (st (s.hut i).toNat) hdn hj hin' (hst _)
   rw[hg2,←st_get st hhut]at c
   exact c
  have eS:stV (upS st (s.hut i).toNat (p i,s.to i))=(List.range 8).map fun m=>SV.int .i64 (if(s.hut (0+((o (0+((d:Nat):Int).toNat):Nat):Int).toNat)).toNat*2+0≤m∧m<(s.hut (0+((o (0+((d:Nat):Int).toNat):Nat):Int).toNat)).toNat*2+0+[p (0+((o (0+((d:Nat):Int).toNat):Nat):Int).toNat),s.to (0+((o (0+((d:Nat):Int).toNat):Nat):Int).toNat)].length then [p (0+((o (0+((d:Nat):Int).toNat):Nat):Int).toNat),s.to (0+((o (0+((d:Nat):Int).toNat):Nat):Int).toNat)].getD (m-((s.hut (0+((o (0+((d:Nat):Int).toNat):Nat):Int).toNat)).toNat*2+0)) 0 else(stI st).getD m 0):=by
   rw[eX]
   exact st_set st hhut _ _
  (repeat' first|exact aq|refine aN ?_ ?_|exact tU)
  all_goals try exact dd
  ·refine u0 ?_
   rw[eX]
   show(s.hut i).toNat*2+(0+2)≤8
   omega
  ·refine u0 ?_
   rw[eX]
   exact hhut.1
  ·refine u0 ?_
   rw[eX]
   show s.hut i<4
   omega
  ·refine u0 ?_
   rw[eX]
   exact hin'
  ·refine u0 ?_
   show((o (0+((d:Nat):Int).toNat):Nat):Int)<s.n
   rw[ed,hi]
   omega
  refine cX.use [0,1,2,3,4,5,6,7,8,9,10,11,12,13,14,15,16,17] ?_ (fPp) rfl
  all_goals(repeat' first|exact aq|refine aN ?_ ?_|exact tU)
  all_goals try exact dd
  all_goals intro hz
  all_goals first|exact absurd hz (by decide)|(cases hz;done)|skip
  all_goals(repeat' first|exact aq|refine aN ?_ ?_|exact tU)
  all_goals try exact dd
  refine drawP E_ok [19] pl145_6 (by kernel_rfl) ?_
  (repeat' first|exact aq|refine aN ?_ ?_|exact tU)
  all_goals try exact dd
  ·rw[eX]
   show(s.hut i).toNat*2+0+2≤8
   omega
  ·refine u0 ?_
   rw[eX]
   exact hhut.1
  ·refine u0 ?_
   rw[eX]
   show s.hut i<4
   omega
  ·refine u0 ?_
   rw[eX]
   exact hin'
  ·refine u0 ?_
   show((o (0+((d:Nat):Int).toNat):Nat):Int)<s.n
   rw[ed,hi]
   omega
  refine⟨(d+1,upS st (s.hut i).toNat (p i,s.to i),g2),⟨hdn,hst.up (hp i hin') ⟨by omega,hto.2⟩,hj2,hg⟩,by simp only;omega,?_⟩
  refine ent_tau [0,1,2,3,4,5,6,7,8,9,10,11,12,13,14,15,16,17,18] ⟨?_,tMm,rfl⟩
  (repeat' first|exact fp|refine aN ?_ ?_)
  exact eS.symm
 ·have hdw:d=s.n:=by
   have:=of_decide_eq_false hc
   simp only at this
   omega
  subst hdw
  have hl:L.drop s.n=[]:=List.drop_eq_nil_of_le (by rw[hL.len];exact Nat.le_refl _)
  rw[hl,runR]at hg
  subst hg
  (repeat' first|exact aq|refine aN ?_ ?_|exact tU)
  all_goals try exact dd
  exact ent_tau [0,1,2,3,4,5,6,7,8,9,10,11,12,13,14,15,16,17] ⟨fPp,tMm,rfl⟩
def pl79_5s:Plan:=eg [1,2,3,4,5,6]<| .alt 0 (.alt 7 (.alt 8 (.eager 9<| .alt 10 (.done) .no) .no) .no) (.alt 7 (.alt 0 (.alt 8 (.eager 9<| .alt 10 (.done) .no) .no) (.alt 8 (.alt 0 (.eager 9<| .alt 10 (.done) .no) .no) .no)) .no)
theorem t69s(n c:Nat):CallP Tryz.prog 69 [.ptr 0 0,.slice 1 1 0 n c] [some .dead,some .dead] (Ret (.fn (.func 145) [] [.ptr 2 0,.ptr 3 0]) [some .dead,some .dead,some (.cells [.ptr 0 0]),some (.cells [.osl true 1 1 n c])]):=by
 refine callR (E:=E) E_ok Tryz.func69 rfl ?_;(repeat' first|exact aq|refine aN ?_ ?_|exact tU);refine Ent.trans (t:=⟨[some (none,.fn (.func 145) [] [.ptr 2 0,.ptr 3 0])],[some .dead,some .dead,some (.cells [.ptr 0 0]),some (.cells [.slice 1 1 0 n c])],[]⟩) ?_ ?_
 ·exact ent_tau [0,1,2,3] ⟨fPp,tMm,rfl⟩
 ·exact entCells (i:=3) (cs':=[.osl true 1 1 n c]) rfl (fun η=>by simp[denL,den])
theorem t69o(b:Bool)(n c:Nat):CallP Tryz.prog 69 [.ptr 0 0,.osl b 1 1 n c] [some .dead,some .dead] (Ret (.fn (.func 145) [] [.ptr 2 0,.ptr 3 0]) [some .dead,some .dead,some (.cells [.ptr 0 0]),some (.cells [.osl b 1 1 n c])]):=by
 refine callR (E:=E) E_ok Tryz.func69 rfl ?_;(repeat' first|exact aq|refine aN ?_ ?_|exact tU);exact ent_tau [0,1,2,3] ⟨fPp,tMm,rfl⟩
def step79(p:Nat→Int)(g:Int)(i:Nat)(v:Int×Int):Int:=if 0≤v.2 then g+dst v.1 (p i)else g
noncomputable def L79(st:LoopState)(p:Option Code):SObj:= .loopr ([none,none,some (.ptr 11 0),some (.ptr 10 0)]++List.replicate 21 none) #[9,10] (asS Tryz.f79) (boS Tryz.f79) st p
noncomputable def P79(n:Nat)(g:Int):List (Nat×SObj):=[(9,L79 .ready none),(10,.cells [.int .i64 g]),(11,.cells [.slice 8 1 0 n n])]
noncomputable def C79(n:Nat)(g:Int):OB:=packR (P79 n g)
noncomputable def HU79(s:SD)(R o:Nat→Nat)(bo:Bool)(co:Nat)(p:Nat→Int)(g:Int):SHeap:=
 [some .dead,some .dead,some .dead,some (.roa 5 s.n s.F),some (.roc (bcv s R 3 (.osl bo 5 1 s.n co))),some (.roa 1 s.n (rowN o)),some (.roc [.ptr 4 0]),some (.roc [.osl true 8 1 s.n s.n]),some (.roa 1 s.n (rowI p)),some (L79 .ready none),some (.cells [.int .i64 g]),some (.cells [.slice 8 1 0 s.n s.n]),some .dead,some .dead,some .dead,some .dead,some .dead,some .dead]
theorem pk79(s:SD)(R o:Nat→Nat)(bo:Bool)(co:Nat)(p:Nat→Int)(g:Int)(T:Tm):Ent 18 ⟨T,HU79 s R o bo co p g,[]⟩ ⟨T,HR s R o bo co true s.n p (C79 s.n g),[]⟩:=
 entPack (n:=18) (T:=T) (H:=HU79 s R o bo co p g) (D:=[]) NSR (P79 s.n g) 9 (fPp) rfl rfl
theorem y79(s:SD)(R o:Nat→Nat)(bo:Bool)(co:Nat)(hs:s.Ok R)(p:Nat→Int)(hp: ∀i,i<s.n→0≤p i∧p i≤3)(d:Nat)(g:Int)(i:Nat)(v:Int×Int)(hd:d<s.n)(hg:0≤g∧g≤3*(d:Int))(hi:i<s.n)(hv:(0≤v.1∧v.1≤3)∧(-1≤v.2∧v.2≤200)):
  YieldP Tryz.prog 9 [.int .i64 (i:Nat),.agg [.int .i64 v.1,.int .i64 v.2]] (HR s R o bo co true s.n p (C79 s.n g)) (Ret (.bool true) (HR s R o bo co true s.n p (C79 s.n (step79 p g i v)))):=by
 have hn5:=hs.n5;have ei:=z1 i;have hpi:=hp i hi;have hdd:0≤dst v.1 (p i)∧dst v.1 (p i)≤3:=by unfold dst;omega
 have c80:CallP Tryz.prog 80 [.slice 0 1 0 2 2] [some (.roa 1 2 (getOf 1 [.int .i64 v.1,.int .i64 (p (0+((i:Nat):Int).toNat))]))] (Ret (.int .i64 (dst v.1 (p i))) [some (.roa 1 2 (getOf 1 [.int .i64 v.1,.int .i64 (p (0+((i:Nat):Int).toNat))]))]):=by
  rw[ei];exact t80 v.1 (p i) ⟨by omega,by omega⟩ ⟨by omega,by omega⟩
 generalize hD:dst v.1 (p i)=D at c80 hdd;refine YieldP.pre (entUnpack (n:=18) (T:=argT [.int .i64 (i:Nat),.agg [.int .i64 v.1,.int .i64 v.2]]) (H:=HR s R o bo co true s.n p (C79 s.n g)) (D:=[]) NSR (P79 s.n g) 9 rfl rfl rfl ⟨trivial,trivial,trivial,trivial⟩) (show(9:Nat)<18 by decide) ?_;refine YieldP.ent (roundP E_ok rfl rfl fun l=>?_);(repeat' first|exact aq|refine aN ?_ ?_|exact tU);all_goals try exact dd
 ·intro hc;have h0:0≤v.2:=of_decide_eq_true hc;have e:step79 p g i v=g+D:=by
   unfold step79;rw[if_pos h0,hD]
  rw[e];(repeat' first|exact aq|refine aN ?_ ?_|exact tU);refine drawP E_ok [11,18] pl79_5s (by kernel_rfl) ?_;all_goals(repeat' first|exact aq|refine aN ?_ ?_|exact tU)
  all_goals try exact dd
  all_goals refine c80.use [19] ?_ (fPp) rfl
  all_goals(repeat' first|exact aq|refine aN ?_ ?_|exact tU)
  all_goals try exact dd
  all_goals refine⟨_,_,⟨rfl,rfl⟩,?_⟩
  all_goals refine Ent.trans ?_ (pk79 s R o bo co p (g+D) _)
  all_goals exact ent_tau [0,1,2,3,4,5,6,7,8,9,10,11,12,13,14,15,16,17] ⟨fPp,tMm,rfl⟩
 ·intro hc;have h0: ¬0≤v.2:=of_decide_eq_false hc;have e:step79 p g i v=g:=by
   unfold step79;rw[if_neg h0]
  rw[e];(repeat' first|exact aq|refine aN ?_ ?_|exact tU);all_goals try exact dd
  refine⟨_,_,⟨rfl,rfl⟩,?_⟩;refine Ent.trans ?_ (pk79 s R o bo co p g _);exact ent_tau [0,1,2,3,4,5,6,7,8,9,10,11,12,13,14,15,16,17] ⟨fPp,tMm,rfl⟩
noncomputable def G79(s:SD)(R o:Nat→Nat)(bo:Bool)(co:Nat)(p:Nat→Int)(g:Int):SHeap:=
 [some .dead,some .dead,some .dead,some (.roa 5 s.n s.F),some (.roc (bcv s R 3 (.osl bo 5 1 s.n co))),some (.roa 1 s.n (rowN o)),some (.roc [.ptr 4 0]),some (.roc [.osl true 8 1 s.n s.n]),some (.roa 1 s.n (rowI p)),some (L79 .ready none),some (.cells [.int .i64 g]),some (.cells [.slice 8 1 0 s.n s.n])]
def S12:List Nat:=[0,1,2,3,4,5,6,7,8,9,10,11,0,0,0,0,0,0]
def GP79(s:SD)(R o:Nat→Nat)(bo:Bool)(co:Nat)(p:Nat→Int)(ob:OB):SHeap:=
 [some .dead,some .dead,some .dead,some (.roa 5 s.n s.F),some (.roc (bcv s R 3 (.osl bo 5 1 s.n co))),some (.roa 1 s.n (rowN o)),some (.roc [.ptr 4 0]),some (.roc [.osl true 8 1 s.n s.n]),some (.roa 1 s.n (rowI p)),some (.pack S12 ob),some .dead,some .dead]
def walkS(s:SD)(L:List Nat)(p:Nat→Int):Int:=runR s p (step79 p) L begS 0
theorem j79{s:SD}{p:Nat→Int}(hp: ∀i,i<s.n→0≤p i∧p i≤3)(d:Nat)(g:Int)(i:Nat)(v:Int×Int)(hg:0≤g∧g≤3*(d:Int))(hi:i<s.n)(hv:(0≤v.1∧v.1≤3)∧(-1≤v.2∧v.2≤200)):
  0≤step79 p g i v∧step79 p g i v≤3*((d+1:Nat):Int):=by
 have hpi:=hp i hi;have hdd:0≤dst v.1 (p i)∧dst v.1 (p i)≤3:=by unfold dst;omega
 unfold step79;split<;>omega
theorem r79(s:SD)(R o:Nat→Nat)(bo:Bool)(co:Nat)(hs:s.Ok R)(L:List Nat)(hL:OrdL s L o bo co)(p:Nat→Int)(hp: ∀i,i<s.n→0≤p i∧p i≤3):
  CallP Tryz.prog 145 [.yld 9,.ptr 6 0,.ptr 7 0] (G79 s R o bo co p 0) (Ret (.tup []) (G79 s R o bo co p (walkS s L p))):=by
 have c:=t145 s R o bo co hs L hL true s.n p hp (step79 p) (C79 s.n) (fun d g=>0≤g∧g≤3*(d:Int)) (fun d g i v _ hg hi hv=>j79 hp d g i v hg hi hv)
  (fun d g i v hd hg hi hv=>y79 s R o bo co hs p hp d g i v hd hg hi hv) 0 ⟨by omega,by omega⟩
 have h1:CallP Tryz.prog 145 [.yld 9,.ptr 6 0,.ptr 7 0] (GP79 s R o bo co p (C79 s.n 0)) (Ret (.tup []) (GP79 s R o bo co p (C79 s.n (walkS s L p)))):=by
  refine c.use S12 ?_ (fPp) rfl;exact⟨rfl,rfl⟩
 refine CallP.pre (entPack (n:=12) (T:=argT [.yld 9,.ptr 6 0,.ptr 7 0]) (H:=G79 s R o bo co p 0) (D:=[]) S12 (P79 s.n 0) 9 (fPp) rfl rfl) ?_;refine CallP.entR h1 ?_;exact entUnpack (n:=12) (T:=[some (none,.tup [])]) (H:=GP79 s R o bo co p (C79 s.n (walkS s L p))) (D:=[]) S12 (P79 s.n (walkS s L p)) 9 rfl rfl rfl ⟨trivial,trivial,trivial,trivial⟩
def H79(s:SD)(R o:Nat→Nat)(bo:Bool)(co:Nat)(p:Nat→Int):SHeap:=
 [some .dead,some .dead,some .dead,some (.roa 5 s.n s.F),some (.roc (bcv s R 3 (.osl bo 5 1 s.n co))),some (.roa 1 s.n (rowN o)),some (.roc [.ptr 4 0]),some (.roa 1 s.n (rowI p))]
theorem t79(s:SD)(R o:Nat→Nat)(bo:Bool)(co:Nat)(hs:s.Ok R)(L:List Nat)(hL:OrdL s L o bo co)(p:Nat→Int)(hp: ∀i,i<s.n→0≤p i∧p i≤3):
  CallP Tryz.prog 79 [.slice 7 1 0 s.n s.n,.ptr 6 0] (H79 s R o bo co p) (Ret (.int .i64 (walkS s L p)) (H79 s R o bo co p)):=by
 have r:=r79 s R o bo co hs L hL p hp;refine callM (E:=E) E_ok Tryz.func79 rfl ?_;(repeat' first|exact aq|refine aN ?_ ?_|exact tU);all_goals try exact dd
 refine(t69s s.n s.n).use [4,7] ?_ (fPp) rfl;(repeat' first|exact aq|refine aN ?_ ?_|exact tU);all_goals try exact dd
 refine rangeP E_ok rfl rfl ?_;refine r.use [0,1,2,3,4,5,10,11,7,13,9,8] ?_ (fPp) rfl;refine⟨by decide,?_⟩;(repeat' first|exact aq|refine aN ?_ ?_|exact tU)
 ·exact fun o h=>h
 refine⟨_,_,⟨rfl,rfl⟩,?_⟩;exact ent_tau [0,1,2,3,4,5,6,7] ⟨fPp,tMm,rfl⟩
end Go.Proofs.YthnhlkflkidemaaGreatDoor
/-
 Plain law of serves, part 7.
-/
namespace Srv
open Kuhn
/-! ### Some bathers alone -/
def SB.sub(b:SB)(L:List Nat):SB where
 n:=L.length;w:=b.w;hut:=fun i=>b.hut (L.getD i 0)
 fr:=fun i=>b.fr (L.getD i 0)
 to:=fun i=>b.to (L.getD i 0)
 sh:=b.sh;ok:=fun i p=>b.ok (L.getD i 0) p
theorem gd_lt{L:List Nat}(h:L.Pairwise (· < ·)){i k:Nat}(hk:k<L.length)(hik:i<k):L.getD i 0<L.getD k 0:=by
 rw[List.getD_eq_getElem?_getD,List.getD_eq_getElem?_getD,List.getElem?_eq_getElem (by omega),List.getElem?_eq_getElem hk];exact List.pairwise_iff_getElem.1 h i k (by omega) hk hik
theorem sub_via(b:SB){L:List Nat}(h:L.Pairwise (· < ·))(hl: ∀i,i∈L→i<b.n):Via (b.sub L) b (fun i=>L.getD i 0):=by
 have lt: ∀i k,i<L.length→k<L.length→(L.getD i 0<L.getD k 0↔i<k):=fun i k hi hk=>by
  rcases Nat.lt_trichotomy i k with c|c|c
  ·have:=gd_lt h hk c;omega
  ·subst c;omega
  ·have:=gd_lt h hi c;omega
 refine⟨rfl,rfl,fun i hi=>hl _ (gd_mem hi),fun i k hi hk e=>?_,fun i k hi hk=>Iff.rfl,fun _ _=>rfl,fun _ _=>rfl,fun _ _ _=>rfl,fun i k hi hk=>?_⟩
 ·have e:L.getD i 0=L.getD k 0:=e;rcases Nat.lt_trichotomy i k with c|c|c
  ·have:=gd_lt h hk c;omega
  ·exact c
  ·have:=gd_lt h hi c;omega
 ·have:=lt k i hk hi;simp only[befo,SB.sub];omega
theorem plans_every(b:SB):b.plans allB=b.plans (bitS (2^b.n-1)):=by
 unfold SB.plans;refine go_set b b.ord (fun i hi=>?_) _ _;show true=(2^b.n-1).testBit i;rw[every_bit,decide_eq_true ((ord_mem b i).1 hi)]
theorem count_pos(b:SB):0<(b.plans allB).length↔b.can (2^b.n-1)=true:=by
 unfold SB.can;rw[plans_every];cases b.plans (bitS (2^b.n-1))<;>simp
/-! ### Huts numbered otherwise -/
theorem turn_id{n:Nat}{q:Nat→Int}(hz: ∀j,n≤j→q j=0):turnQ id n q=q:=by
 funext i;unfold turnQ;split
 ·rfl
 ·exact(hz i (by omega)).symm
theorem plan_zero{b:SB}(ht:b.Tm){q:Nat→Int}(h:q∈b.plans allB): ∀j,b.n≤j→q j=0:=fun j hj=>((mem_plans ht _ _).1 h).2 j fun h=>by omega
theorem Prm.same{x b:SB}(P:Prm x b id)(ht:b.Tm)(hs:0≤b.sh)(ht':x.Tm)(hs':0≤x.sh)(q:Nat→Int):q∈x.plans allB↔q∈b.plans allB:=by
 constructor
 ·intro h;have h2:=P.planB ht hs ht' hs' h;have e:turnQ (invE id x.n) b.n q=q:=by
   have:=P.turn_back (q:=q) (plan_zero ht' h);rw[turn_id (fun j hj=>?_)]at this
   ·exact this
   ·simp only[turnQ];rw[if_neg (by have:=P.n;omega)]
  rwa [e]at h2
 ·intro h;have h2:=P.plan ht hs ht' hs' h;rwa [turn_id (fun j hj=>plan_zero ht h j (by have:=P.n;omega))]at h2
/-! ### Bathers the other way round -/
def lexB(n:Nat)(x y:Nat→Int):Bool:=(List.range n).any fun i=>decide (x i<y i)&&(List.range i).all fun j=>decide (x j=y j)
end Srv
/-
 What is so of each bather as they come. (--fast)
-/
namespace Go.Proofs.YthnhlkflkidemaaGreatDoor
open Go Go.Sy Srv Kuhn
set_option maxRecDepth 100000
set_option maxHeartbeats 4000000
attribute [local irreducible] CallP CodeP Ent YieldP
def accR{γ:Type}(b:SB)(p:Nat→Int)(step:γ→Nat→Int×Int→γ)(g:γ):Nat→γ
 |0=>g
 |j+1=>step (accR b p step g j) (srtF b.fr b.n j) (b.valS p (bfF b allB (srtF b.fr b.n j) b.n))
theorem run_acc{γ:Type}(s:SD)(R:Nat→Nat)(p:Nat→Int)(step:γ→Nat→Int×Int→γ)(g:γ):runR s p step (sbR s R).ord begS g=accR (sbR s R) p step g s.n:=by
 have key: ∀r j,j+r=s.n→runR s p step ((sbR s R).ord.drop j) ((sbR s R).stJ p j) (accR (sbR s R) p step g j)=accR (sbR s R) p step g s.n:=by
  intro r;induction r with
  |zero=>
   intro j hj;obtain rfl:j=s.n:=by omega
   have hl:(sbR s R).ord.drop s.n=[]:=List.drop_eq_nil_of_le (by simp[SB.ord,sbR]);rw[hl];rfl
  |succ r ih=>
   intro j hj;have hjn:j<(sbR s R).n:=by show j<s.n;omega
   rw[ord_drop (sbR s R) hjn,runR,←ih (j+1) (by omega)];have h:=stJ_at (sbR s R) p hjn;have h':(sbR s R).stJ p j (s.hut (srtF (sbR s R).fr (sbR s R).n j)).toNat=(sbR s R).valS p (bfF (sbR s R) allB (srtF (sbR s R).fr (sbR s R).n j) (sbR s R).n):=h;rw[h'];rfl
 exact key s.n 0 (by omega)
theorem ordL_ok(s:SD)(R:Nat→Nat){bo:Bool}{co:Nat}(hv:(s.n=0∧bo=false∧co=0)∨(0<s.n∧bo=true∧s.n≤co)):OrdL s (sbR s R).ord (srtF s.fr s.n) bo co where
 len:=by simp[SB.ord,sbR]
 get k hk:=by
  have hl:k<((List.range s.n).map (srtF s.fr s.n)).length:=by simpa using hk
  show((List.range s.n).map (srtF s.fr s.n)).getD k 0=_;rw[List.getD_eq_getElem?_getD,List.getElem?_eq_getElem hl];simp
 lt k hk:=by
  obtain⟨_,_,h3⟩:=srtF_ok s.fr s.n;exact(h3 _).1 ⟨k,hk,rfl⟩
 nd:=ord_nd (sbR s R);vb:=hv
set_option maxHeartbeats 16000000
def HC(s:SD)(R:Nat→Nat)(cap:Nat)(b5:SObj):SHeap:=[some .dead,some .dead,some .dead,some (.roa 5 s.n s.F),some (.roc (bcv s R 3 (.slice 5 1 0 s.n cap))),some b5]
theorem t139c(s:SD)(R:Nat→Nat)(cap:Nat)(i j:Nat)(hi:i<s.n)(hj:j<s.n)(hn:s.n≤5)(hr: ∀k,k<s.n→0≤s.fr k∧s.fr k≤1000):CallP Tryz.prog 139 [.ptr 4 0,.int .i64 i,.int .i64 j] (HC s R cap .dead) (Ret (.int .i64 (if s.fr i-s.fr j=0 then(i:Int)-j else s.fr i-s.fr j)) (HC s R cap .dead)):=by
 have ei:=z1 i;have ej:=z1 j;have bi:=hr (0+((i:Nat):Int).toNat) (by omega);have bj:=hr (0+((j:Nat):Int).toNat) (by omega);refine callR (E:=E) E_ok Tryz.func139 rfl ?_;(repeat' first|exact aq|refine aN ?_ ?_|exact tU);refine drawP E_ok [4] pl139_1 (by kernel_rfl) ?_;(repeat' first|exact aq|refine aN ?_ ?_|exact tU);all_goals try exact dd
 ·intro h1;(repeat' first|exact aq|refine aN ?_ ?_|exact tU);refine ent_tau [0,1,2,3,4,5] ⟨fPp,⟨rfl,congrArg (SV.int .i64) ?_,trivial⟩,rfl⟩;rw[ei,ej]at h1⊢;rw[if_neg (by simpa using h1)]
 ·intro h1;(repeat' first|exact aq|refine aN ?_ ?_|exact tU);all_goals try exact dd
  refine ent_tau [0,1,2,3,4,5] ⟨fPp,⟨rfl,congrArg (SV.int .i64) ?_,trivial⟩,rfl⟩;rw[ei,ej]at h1;rw[if_pos (by simpa using h1)]
theorem insF_yes{K:Nat→Int}{o:Nat→Nat}{j:Nat}(h:K (o (j+1))<K (o j)):insF (ltK K) (j+1) o=insF (ltK K) j (swp o (j+1)):=by
 simp only[insF,ltK,decide_eq_true h]
theorem insF_no{K:Nat→Int}{o:Nat→Nat}{j:Nat}(h: ¬K (o (j+1))<K (o j)):insF (ltK K) (j+1) o=o:=by
 simp only[insF,ltK,decide_eq_false h]
theorem swpN_row(o:Nat→Nat){a b j:Nat}(ha:a=j+1)(hb:b=j)(k:Nat):
  selL (decide (k=b)) (splice (selL (decide (b=a)) (splice (rowN o a) 0 (rowN o b)) (rowN o b)) 0 (rowN o a)) (selL (decide (k=a)) (splice (rowN o a) 0 (rowN o b)) (rowN o k))=rowN (swp o (j+1)) k:=by
 subst ha hb;have s1: ∀x y,splice (rowN o x) 0 (rowN o y)=rowN o y:=fun x y=>rfl
 rw[decide_eq_false (show¬b=b+1 by omega),selL_false,s1,s1];by_cases c1:k=b
 ·subst c1;rw[decide_eq_true rfl,selL_true];unfold rowN swp;rw[if_neg (by omega),Nat.add_sub_cancel,if_pos rfl]
 ·rw[decide_eq_false c1,selL_false];by_cases c2:k=b+1
  ·subst c2;rw[decide_eq_true rfl,selL_true];unfold rowN swp;rw[if_pos rfl,Nat.add_sub_cancel]
  ·rw[decide_eq_false c2,selL_false];unfold rowN swp;rw[if_neg c2,Nat.add_sub_cancel,if_neg c1]
def pl218_6s:Plan:=eg [0,1,2,3,4,5,6,7,8,10,11,12]<| .alt 9 (.alt 13 (.eager 14<| .alt 15 (.eager 16<| .alt 17 (.done) .no) .no) .no) (.alt 13 (.alt 9 (.eager 14<| .alt 15 (.eager 16<| .alt 17 (.done) .no) .no) .no) .no)
theorem swp_lt{o:Nat→Nat}{n j:Nat}(h: ∀k,k<n→o k<n)(hj:j+1<n): ∀k,k<n→swp o (j+1) k<n:=fun k hk=>by
 unfold swp;split
 ·exact h _ (by omega)
 ·split
  ·exact h _ hj
  ·exact h k hk
theorem t218(s:SD)(R:Nat→Nat)(cap:Nat)(hn:s.n≤5)(hr: ∀k,k<s.n→0≤s.fr k∧s.fr k≤1000):CallP Tryz.prog 218 [.slice 5 1 0 s.n cap,.int .i64 0,.int .i64 s.n,.fn (.func 139) [.ptr 4 0] []] (HC s R cap (.arr 1 s.n cap (rowN id))) (Ret (.tup []) (HC s R cap (.arr 1 s.n cap (rowN (srtF s.fr s.n))))):=by
 refine callR (E:=E) E_ok Tryz.func218 rfl ?_;(repeat' first|exact aq|refine aN ?_ ?_|exact tU);all_goals try exact dd
 refine loopP E_ok [0,1,2,3] (fun i:Nat=>[(8,.int .i64 i)]) (fun i _=>HC s R cap (.arr 1 s.n cap (rowN (srtF s.fr i)))) (fun i=>1≤i∧(i≤s.n∨i=1)) (fun i=>s.n-i) 1 ⟨Nat.le_refl _,.inr rfl⟩ ?_ ?_
 ·exact ent_tau [0,1,2,3,4,5] ⟨fPp,tMm,rfl⟩
 rintro i ⟨h1,hi⟩;refine And.intro ?_ (And.intro (fun hc=>?_) (fun hc=>?_))
 ·(repeat' first|exact aq|refine aN ?_ ?_|exact tU)
 ·have hlt:i<s.n:=by
   have:=of_decide_eq_true hc;omega
  obtain⟨_,s2,s3⟩:=srtF_ok s.fr i;have hol: ∀k,k<s.n→srtF s.fr i k<s.n:=fun k hk=>by
   rcases Nat.lt_or_ge k i with c|c
   ·have:=(s3 _).1 ⟨k,c,rfl⟩;omega
   ·rw[s2 k c];exact hk
  have hof: ∀k,k<i→srtF s.fr i k<i:=fun k hk=>(s3 _).1 ⟨k,hk,rfl⟩
  (repeat' first|exact aq|refine aN ?_ ?_|exact tU);all_goals try exact dd
  refine loopP E_ok [0,1,2,3,8] (fun g:Nat×(Nat→Nat)=>[(9,.int .i64 g.1)]) (fun g _=>HC s R cap (.arr 1 s.n cap (rowN g.2))) (fun g=>g.1≤i∧(∀k,k<s.n→g.2 k<s.n)∧(g.2 g.1=i∧ ∀k,k<g.1→g.2 k<i)∧insF (ltK s.fr) g.1 g.2=srtF s.fr (i+1)) (fun g=>g.1) (i,srtF s.fr i) ⟨Nat.le_refl _,hol,⟨s2 i (Nat.le_refl _),hof⟩,rfl⟩ ?_ ?_
  ·exact ent_tau [0,1,2,3,4,5] ⟨fPp,tMm,rfl⟩
  rintro⟨j,o⟩ ⟨hj,hlo,⟨hoj,hob⟩,ho⟩;simp only at hj hlo hoj hob ho;rcases j with _|j
  ·refine And.intro trivial ?_;refine drawP E_ok [5] pl218_4 (by kernel_rfl) ?_;refine And.intro (And.intro ?_ (And.intro (fun hg=>?_) (fun hg=>?_))) trivial
   ·(repeat' first|exact aq|refine aN ?_ ?_|exact tU);all_goals first|exact om|(intro hh;simp[gB,wB]at hh;done)
   ·simp[gB,wB]at hg
   (repeat' first|exact aq|refine aN ?_ ?_|exact tU);all_goals first|exact om|(intro hx;simp at hx;done)|skip
   intro _;have ho2:o=srtF s.fr (i+1):=ho;subst ho2;(repeat' first|exact aq|refine aN ?_ ?_|exact tU);all_goals try exact dd
   refine⟨i+1,⟨by omega,.inl hlt⟩,by omega,?_⟩;exact ent_tau [0,1,2,3,4,5] ⟨fPp,tMm,rfl⟩
  ·have e1:0+((j+1:Nat):Int).toNat=j+1:=by omega
   have e2:0+(((j+1:Nat):Int)-1).toNat=j:=by omega
   have c100:=t139c s R cap (o (0+((j+1:Nat):Int).toNat)) (o (0+(((j+1:Nat):Int)-1).toNat)) (by rw[e1];exact hlo _ (by omega)) (by rw[e2];exact hlo _ (by omega)) hn hr;have hbj:=hob j (by omega);have hcm:(if s.fr (o (j+1))-s.fr (o j)=0 then((o (j+1):Nat):Int)-((o j:Nat):Int)else s.fr (o (j+1))-s.fr (o j))<0↔s.fr (o (j+1))<s.fr (o j):=by
    split<;>omega
   have hw:swp o (j+1) j=i∧ ∀k,k<j→swp o (j+1) k<i:=by
    refine⟨?_,fun k hk=>?_⟩
    ·unfold swp;rw[if_neg (by omega),Nat.add_sub_cancel,if_pos rfl];exact hoj
    ·unfold swp;rw[if_neg (by omega),Nat.add_sub_cancel,if_neg (by omega)];exact hob k (by omega)
   refine And.intro trivial ?_;refine drawP E_ok [5] pl218_4 (by kernel_rfl) ?_;refine And.intro (And.intro ?_ (And.intro (fun hg=>?_) (fun hg=>?_))) trivial
   ·(repeat' first|exact aq|refine aN ?_ ?_|exact tU);all_goals first|exact om|skip
   ·refine c100.use [0,1,2,3,4,5] ?_ (fPp) rfl;(repeat' first|exact aq|refine aN ?_ ?_|exact tU);all_goals first|exact om|exact fun _=>hg|exact fun _ _=>hg|skip
    ·intro hx;have hx3:(bif decide (((j+1:Nat):Int)>0)then decide ((if s.fr (o (0+((j+1:Nat):Int).toNat))-s.fr (o (0+(((j+1:Nat):Int)-1).toNat))=0 then((o (0+((j+1:Nat):Int).toNat):Nat):Int)-((o (0+(((j+1:Nat):Int)-1).toNat):Nat):Int)else s.fr (o (0+((j+1:Nat):Int).toNat))-s.fr (o (0+(((j+1:Nat):Int)-1).toNat)))<0)else false)=true:=hx;rw[decide_eq_true (show((j+1:Nat):Int)>0 by omega),e1,e2]at hx3;have hx4:=hcm.1 (of_decide_eq_true hx3);rw[insF_yes hx4]at ho;(repeat' first|exact aq|refine aN ?_ ?_|exact tU);refine drawP E_ok [] pl218_6s (by kernel_rfl) ?_;(repeat' first|exact aq|refine aN ?_ ?_|exact tU);all_goals first|exact om|skip
     all_goals refine⟨(j,swp o (j+1)),⟨by simp only;omega,swp_lt hlo (by omega),hw,ho⟩,by simp only;omega,?_⟩
     all_goals refine ent_tau [0,1,2,3,4,5] ⟨?_,?_,rfl⟩
     all_goals first|(repeat' first|exact fp|refine aN ?_ ?_)|skip
     all_goals first|exact congrArg (SV.int .i64) (show(((j+1:Nat)):Int)-1=(j:Int)by omega)|exact fun k _=>swpN_row o e1 e2 k
    ·intro hx;have hx3:(bif decide (((j+1:Nat):Int)>0)then decide ((if s.fr (o (0+((j+1:Nat):Int).toNat))-s.fr (o (0+(((j+1:Nat):Int)-1).toNat))=0 then((o (0+((j+1:Nat):Int).toNat):Nat):Int)-((o (0+(((j+1:Nat):Int)-1).toNat):Nat):Int)else s.fr (o (0+((j+1:Nat):Int).toNat))-s.fr (o (0+(((j+1:Nat):Int)-1).toNat)))<0)else false)=false:=hx;rw[decide_eq_true (show((j+1:Nat):Int)>0 by omega),e1,e2]at hx3;have hx4: ¬s.fr (o (j+1))<s.fr (o j):=fun h=>of_decide_eq_false hx3 (hcm.2 h)
     rw[insF_no hx4]at ho;subst ho;(repeat' first|exact aq|refine aN ?_ ?_|exact tU);all_goals try exact dd
     refine⟨i+1,⟨by omega,.inl hlt⟩,by omega,?_⟩;exact ent_tau [0,1,2,3,4,5] ⟨fPp,tMm,rfl⟩
   ·exfalso;simp[gB,wB]at hg;try omega
 ·have e:s.n≤i:=by
   have:=of_decide_eq_false hc;omega
  have e3:srtF s.fr i=srtF s.fr s.n:=by
   rcases hi with c|c
   ·rw[show i=s.n by omega]
   ·have:s.n=0∨s.n=1:=by omega
    rcases this with c2|c2
    ·rw[c,c2];rfl
    ·rw[c,c2]
  (repeat' first|exact aq|refine aN ?_ ?_|exact tU);refine ent_tau [0,1,2,3,4,5] ⟨?_,tMm,rfl⟩;rw[e3];(repeat' first|exact fp|refine aN ?_ ?_)
theorem t194(s:SD)(R:Nat→Nat)(cap:Nat)(l:Int)(hn:s.n≤5)(hr: ∀k,k<s.n→0≤s.fr k∧s.fr k≤1000):CallP Tryz.prog 194 [.slice 5 1 0 s.n cap,.int .i64 0,.int .i64 s.n,.int .i64 l,.fn (.func 139) [.ptr 4 0] []] (HC s R cap (.arr 1 s.n cap (rowN id))) (Ret (.tup []) (HC s R cap (.arr 1 s.n cap (rowN (srtF s.fr s.n))))):=by
 refine callR (E:=E) E_ok Tryz.func194 rfl ?_;(repeat' first|exact aq|refine aN ?_ ?_|exact tU);refine loopP E_ok [0,1,2,3,4] (fun _:Unit=>[]) (fun _ H=>H) (fun _=>True) (fun _=>0) () trivial ?_ ?_
 ·exact ent_tau [0,1,2,3,4,5] ⟨fPp,tMm,rfl⟩
 rintro _ _;(repeat' first|exact aq|refine aN ?_ ?_|exact tU);all_goals try exact dd
 ·intro _;(repeat' first|exact aq|refine aN ?_ ?_|exact tU);refine(t218 s R cap hn hr).use [0,1,2,3,4,5] ?_ (fPp) rfl;(repeat' first|exact aq|refine aN ?_ ?_|exact tU);all_goals try exact dd
  exact ent_tau [0,1,2,3,4,5] ⟨fPp,tMm,rfl⟩
 ·intro hc;exfalso;have:=of_decide_eq_false hc;omega
theorem t140(s:SD)(R:Nat→Nat)(cap:Nat)(hn:s.n≤5)(hr: ∀k,k<s.n→0≤s.fr k∧s.fr k≤1000):CallP Tryz.prog 140 [.slice 5 1 0 s.n cap,.fn (.func 139) [.ptr 4 0] []] (HC s R cap (.arr 1 s.n cap (rowN id))) (Ret (.tup []) (HC s R cap (.arr 1 s.n cap (rowN (srtF s.fr s.n))))):=by
 have c195:CallP Tryz.prog 195 [.int .u64 (s.n:Nat)] [] (Ret (.int .i64 (Lib.bitLen ((s.n:Nat):Int).toNat)) []):=by
  refine callR (E:=E) E_ok Tryz.func195 rfl ?_;all_goals(repeat' first|exact aq|refine aN ?_ ?_|exact tU)
  all_goals try exact dd
  all_goals intro h1
  all_goals first|exact absurd h1 (by decide)|(cases h1;done)|skip
  all_goals(repeat' first|exact aq|refine aN ?_ ?_|exact tU)
  all_goals try exact dd
  refine(u117 ((s.n:Nat):Int) (by omega) (by omega)).use [] ?_ trivial rfl;(repeat' first|exact aq|refine aN ?_ ?_|exact tU);exact ent_tau [] ⟨fPp,tMm,rfl⟩
 refine callR (E:=E) E_ok Tryz.func140 rfl ?_;(repeat' first|exact aq|refine aN ?_ ?_|exact tU);all_goals try exact dd
 refine c195.use [] ?_ trivial rfl;(repeat' first|exact aq|refine aN ?_ ?_|exact tU);refine(t194 s R cap _ hn hr).use [0,1,2,3,4,5] ?_ (fPp) rfl;(repeat' first|exact aq|refine aN ?_ ?_|exact tU);exact ent_tau [0,1,2,3,4,5] ⟨fPp,tMm,rfl⟩
theorem t218n:CallP Tryz.prog 218 [.snil,.int .i64 0,.int .i64 0,.fn (.func 139) [.ptr 0 0] []] [some .dead] (Ret (.tup []) [some .dead]):=by
 refine callR (E:=E) E_ok Tryz.func218 rfl ?_;(repeat' first|exact aq|refine aN ?_ ?_|exact tU);all_goals try exact dd
 refine loopP E_ok [0,1,2,3] (fun _:Unit=>[(8,.int .i64 1)]) (fun _ H=>H) (fun _=>True) (fun _=>0) () trivial ?_ ?_
 ·exact ent_tau [0] ⟨fPp,tMm,rfl⟩
 rintro _ _;refine And.intro ?_ (And.intro (fun hc=>?_) (fun hc=>?_))
 ·(repeat' first|exact aq|refine aN ?_ ?_|exact tU)
 ·exfalso;have:=of_decide_eq_true hc;omega
 (repeat' first|exact aq|refine aN ?_ ?_|exact tU);exact ent_tau [0] ⟨fPp,tMm,rfl⟩
theorem t194n(l:Int):CallP Tryz.prog 194 [.snil,.int .i64 0,.int .i64 0,.int .i64 l,.fn (.func 139) [.ptr 0 0] []] [some .dead] (Ret (.tup []) [some .dead]):=by
 refine callR (E:=E) E_ok Tryz.func194 rfl ?_;(repeat' first|exact aq|refine aN ?_ ?_|exact tU);refine loopP E_ok [0,1,2,3,4] (fun _:Unit=>[]) (fun _ H=>H) (fun _=>True) (fun _=>0) () trivial ?_ ?_
 ·exact ent_tau [0] ⟨fPp,tMm,rfl⟩
 rintro _ _;all_goals(repeat' first|exact aq|refine aN ?_ ?_|exact tU)
 all_goals try exact dd
 all_goals intro hc
 all_goals first|exact absurd hc (by decide)|(cases hc;done)|skip
 (repeat' first|exact aq|refine aN ?_ ?_|exact tU);refine t218n.use [0] ?_ (fPp) rfl;(repeat' first|exact aq|refine aN ?_ ?_|exact tU);exact ent_tau [0] ⟨fPp,tMm,rfl⟩
theorem t140n:CallP Tryz.prog 140 [.snil,.fn (.func 139) [.ptr 0 0] []] [some .dead] (Ret (.tup []) [some .dead]):=by
 have c195:CallP Tryz.prog 195 [.int .u64 0] [] (Ret (.int .i64 (Lib.bitLen (0:Int).toNat)) []):=by
  refine callR (E:=E) E_ok Tryz.func195 rfl ?_;all_goals(repeat' first|exact aq|refine aN ?_ ?_|exact tU)
  all_goals try exact dd
  all_goals intro h1
  all_goals first|exact absurd h1 (by decide)|(cases h1;done)|skip
  all_goals(repeat' first|exact aq|refine aN ?_ ?_|exact tU)
  refine(u117 0 (by omega) (by omega)).use [] ?_ trivial rfl;(repeat' first|exact aq|refine aN ?_ ?_|exact tU);exact ent_tau [] ⟨fPp,tMm,rfl⟩
 refine callR (E:=E) E_ok Tryz.func140 rfl ?_;(repeat' first|exact aq|refine aN ?_ ?_|exact tU);all_goals try exact dd
 refine c195.use [] ?_ trivial rfl;(repeat' first|exact aq|refine aN ?_ ?_|exact tU);refine(t194n _).use [0] ?_ (fPp) rfl;(repeat' first|exact aq|refine aN ?_ ?_|exact tU);exact ent_tau [0] ⟨fPp,tMm,rfl⟩
end Go.Proofs.YthnhlkflkidemaaGreatDoor
/-
 Contracts: which moves can follow which ones.
-/
namespace Go.Proofs.YthnhlkflkidemaaGreatDoor
open Go Go.Sy Kuhn
set_option maxRecDepth 100000
set_option maxHeartbeats 4000000
attribute [local irreducible] CallP CodeP Ent YieldP
attribute [local irreducible] HD.ch maskO
def chI(f:Nat→Int):List SV:=[.int .u64 (f 0),.int .u64 (f 1),.int .u64 (f 2),.int .u64 (f 3),.int .u64 (f 4),.int .u64 (f 5),.int .u64 (f 6)]
theorem chI_eq{f g:Nat→Int}(h: ∀m,m<7→f m=g m):chI f=chI g:=by
 simp only[chI,h 0 (by decide),h 1 (by decide),h 2 (by decide),h 3 (by decide),h 4 (by decide),h 5 (by decide),h 6 (by decide)]
theorem get7(f:Nat→Int): ∀m,m<7→[f 0,f 1,f 2,f 3,f 4,f 5,f 6].getD m 0=f m
 |0,_=>rfl
 |1,_=>rfl
 |2,_=>rfl
 |3,_=>rfl
 |4,_=>rfl
 |5,_=>rfl
 |6,_=>rfl
 |m+7,h=>by omega
theorem unF{A B:Int}{S T:Nat}(hA:A=S)(hB:B=T): ∀k,k<2→getOf 1 [.int .u64 A,.int .u64 B] k=un2 S T k
 |0,_=>by rw[hA,hB];rfl
 |1,_=>by rw[hA,hB];rfl
 |k+2,h=>by omega
theorem pow_int(k:Nat):(1:Int)*2^((k:Nat):Int).toNat=((2^k:Nat):Int):=by
 rw[Int.one_mul,Int.toNat_natCast];push_cast;rfl
theorem mask_lt7(f:Nat→Bool){k:Nat}(hk:k≤7):maskO f k<128:=Nat.lt_of_lt_of_le (maskO_lt f k) (Nat.pow_le_pow_right (n:=2) (by omega) hk)
theorem maskO_zero(f:Nat→Bool):maskO f 0=0:=by simp[maskO]
theorem maskO_yes{f:Nat→Bool}{k:Nat}(h:f k=true):maskO f (k+1)=maskO f k|||2^k:=by simp[maskO,h]
theorem maskO_no{f:Nat→Bool}{k:Nat}(h:f k=false):maskO f (k+1)=maskO f k:=by simp[maskO,h]
def cf(h:HD)(s:Bool)(i k j:Nat):Int:=if j<i then(h.ch s j:Nat)else if j=i then(maskO (fun k=>h.can s i k) k:Nat)else 0
theorem cf_done{h:HD}{s:Bool}{i:Nat}(hi:i<h.n)(j:Nat):cf h s i h.n j=cf h s (i+1) 0 j:=by
 unfold cf;rcases Nat.lt_trichotomy j i with c|c|c
 ·rw[if_pos c,if_pos (by omega)]
 ·subst c;rw[if_neg (by omega),if_pos rfl,if_pos (by omega)];unfold HD.ch;rw[decide_eq_true hi]
 ·rw[if_neg (by omega),if_neg (by omega),if_neg (by omega),maskO_zero];split<;>rfl
theorem cf_at{h:HD}{s:Bool}{i k:Nat} :cf h s i k i=(maskO (fun k=>h.can s i k) k:Nat):=by
 unfold cf;rw[if_neg (by omega),if_pos rfl]
theorem cf_yes{h:HD}{s:Bool}{i k:Nat}(hc:h.can s i k=true)(m:Nat):(if m=((i:Nat):Int).toNat then((maskO (fun k=>h.can s i k) k|||2^k:Nat):Int)else cf h s i k m)=cf h s i (k+1) m:=by
 rw[Int.toNat_natCast];unfold cf;by_cases c:m=i
 ·subst c;rw[if_pos rfl,if_neg (by omega),if_pos rfl,maskO_yes hc]
 ·rw[if_neg c];by_cases c2:m<i
  ·rw[if_pos c2,if_pos c2]
  ·rw[if_neg c2,if_neg c2,if_neg c,if_neg c]
theorem cf_no{h:HD}{s:Bool}{i k:Nat}(hc:h.can s i k=false)(m:Nat):cf h s i k m=cf h s i (k+1) m:=by
 unfold cf;by_cases c2:m<i
 ·rw[if_pos c2,if_pos c2]
 ·rw[if_neg c2,if_neg c2];by_cases c:m=i
  ·rw[if_pos c,if_pos c,maskO_no hc]
  ·rw[if_neg c,if_neg c]
theorem cf_zero{h:HD}{s:Bool}(m:Nat):0=cf h s 0 0 m:=by
 unfold cf;rw[if_neg (by omega),maskO_zero];split<;>rfl
theorem cf_all{h:HD}{s:Bool}(m:Nat):cf h s h.n 0 m=(h.ch s m:Nat):=by
 unfold cf;by_cases c:m<h.n
 ·rw[if_pos c]
 ·rw[if_neg c,maskO_zero];unfold HD.ch;rw[decide_eq_false c];split<;>rfl
def pl115_8s:Plan:=eg [0,1,2,4,5]<| .alt 3 (.alt 6 (.alt 7 (.eager 8<| .alt 9 .done .no) .no) .no) .no
def bc(h:HD):List SV:=[.int .i64 h.pace,.osl h.b 0 4 h.n h.cap]
theorem h50(h:HD)(hv:h.Valid)(s:Bool):CallP Tryz.prog 115 [HD.A h,tr s] (HD.H h) (Ret (.agg (chI fun j=>(h.ch s j:Nat))) (HD.H h)):=by
 have hn:=hv.2.1;refine callR (E:=E) E_ok Tryz.func115 rfl ?_;refine aN ?_ ?_
 ·simp[AllP,under,gB,wB,inR_iffH,IntKind.bits]
 refine loopP E_ok [1,2,4,11,12] (fun i:Nat=>[(13,.int .i64 i)]) (fun i _=>HD.H h++[some (.cells (bc h)),some (.cells (chI (cf h s i 0)))]) (fun i=>i≤h.n) (fun i=>h.n-i) 0 (Nat.zero_le _) ?_ ?_
 ·refine ent_tau [0, 1, 2] ⟨?_, qZ2, rfl⟩;(repeat' (first | exact tU | exact rfl | exact fun _ _ => rfl | exact Or.inl rfl | refine aN ?_ ?_));exact chI_eq (f := fun _ => 0) fun m _ => cf_zero m
 rintro i hi;have ei:=z1 i;refine And.intro ?_ (And.intro (fun hc=>?_) (fun hc=>?_))
 ·simp[AllP,under,gB,wB,inR_iffH,IntKind.bits]
 ·have hlt:i<h.n:=by
   have:=of_decide_eq_true hc;omega
  have mi:=hv.2.2 (0+((i:Nat):Int).toNat) (by omega);unfold HD.okMv at mi;refine aN ?_ ?_
  ·(repeat' (first|exact tU|exact fun _=>rfl|exact rfl|refine aN ?_ ?_));all_goals exact qM0
  refine loopP E_ok [1,2,4,5,6,11,12,13,20,21] (fun k:Nat=>[(22,.int .i64 k)]) (fun k _=>HD.H h++[some (.cells (bc h)),some (.cells (chI (cf h s i k))),some (.cells (HD.F h (0+((i:Nat):Int).toNat)))]) (fun k=>k≤h.n) (fun k=>h.n-k) 0 (Nat.zero_le _) ?_ ?_
  ·exact ent_tau [0,1,2,3] ⟨qZ0,qZ2,rfl⟩
  rintro k hk;have ek:=z1 k;refine And.intro ?_ (And.intro (fun hc2=>?_) (fun hc2=>?_))
  ·simp[AllP,under,gB,wB,inR_iffH,IntKind.bits]
  ·have hlk:k<h.n:=by
    have:=of_decide_eq_true hc2;omega
   have mk:=hv.2.2 (0+((k:Nat):Int).toNat) (by omega);unfold HD.okMv at mk;refine aN ?_ ?_
   ·(repeat' (first|exact tU|exact fun _=>rfl|exact rfl|refine aN ?_ ?_));all_goals exact qM0
   refine drawP E_ok [1,3,4] pl115_7 (by kernel_rfl) ?_;refine And.intro (And.intro ?_ ?_) trivial
   ·(repeat' (first|exact tU|exact fun _=>rfl|exact rfl|refine aN ?_ ?_))
   refine(h81 h hv s (h.at' (0+((i:Nat):Int).toNat)) ⟨by omega,by omega⟩ i k hlt hlk).use [0] ?_ (qZ0) rfl;have ecan:decide (h.there s (h.at' (0+((i:Nat):Int).toNat)) i k≤h.at' (0+((k:Nat):Int).toNat))=h.can s i k:=by
    rw[ei,ek];rfl
   refine aN ?_ ?_
   ·(repeat' (first|exact tU|exact fun _=>rfl|exact rfl|refine aN ?_ ?_))
   refine And.intro rfl ?_;have ml:=mask_lt7 (fun k=>h.can s i k) (k:=k) (by omega);refine And.intro ?_ (And.intro (fun hcan=>?_) (fun hcan=>?_))
   ·(repeat' (first|exact tU|exact fun _=>rfl|exact rfl|refine aN ?_ ?_))
   ·rw[ecan]at hcan;refine And.intro trivial ?_;have pk:=pow_int k;have pk0:(0:Int)≤1*2^((k:Nat):Int).toNat:=by rw[pk];exact Int.natCast_nonneg _
    have p2:2^k<2^7:=Nat.pow_lt_pow_right (by omega) (by omega);have hA:[cf h s i k 0,cf h s i k 1,cf h s i k 2,cf h s i k 3,cf h s i k 4,cf h s i k 5,cf h s i k 6].getD ((i:Nat):Int).toNat 0=(maskO (fun k=>h.can s i k) k:Nat):=by
     rw[Int.toNat_natCast,get7 (cf h s i k) i (by omega),cf_at]
    have hf:=unF hA pk;refine drawP E_ok [] pl115_8s (by kernel_rfl) ?_;(repeat' (first|exact tU|exact fun _=>rfl|exact rfl|refine aN ?_ ?_));all_goals first|exact qM0|exact pk0|(rw[pk];omega)|exact u0 (show((k:Nat):Int)<64 by omega)|skip
    refine(h82 (maskO (fun k=>h.can s i k) k) (2^k) (Nat.lt_trans ml (by decide)) (Nat.lt_trans p2 (by decide))).use [5] ?_ (by(first|exact⟨⟨rfl,rfl,hf⟩,trivial⟩|exact⟨⟨rfl,rfl,fun k hk=>hf k hk⟩,trivial⟩)) rfl;(repeat' (first|exact tU|exact fun _=>rfl|exact rfl|refine aN ?_ ?_));all_goals first|exact qM0|skip
    refine ⟨k + 1, hlk, by omega, ?_⟩;refine ent_tau [0, 1, 2, 3] ⟨?_, qZ2, rfl⟩;(repeat' (first | exact tU | exact rfl | exact fun _ _ => rfl | exact Or.inl rfl | refine aN ?_ ?_));exact chI_eq (f := fun m => if m = ((i : Nat) : Int).toNat then ((maskO (fun k => h.can s i k) k ||| 2 ^ k : Nat) : Int) else cf h s i k m) fun m _ => cf_yes hcan m
   ·rw[ecan]at hcan;(repeat' (first|exact tU|exact fun _=>rfl|exact rfl|refine aN ?_ ?_));all_goals first|exact qM0|skip
    refine⟨k+1,hlk,by omega,?_⟩;refine ent_tau [0,1,2,3] ⟨?_,qZ2,rfl⟩;(repeat' (first|exact tU|exact rfl|exact fun _ _=>rfl|exact Or.inl rfl|refine aN ?_ ?_));exact chI_eq fun m _=>cf_no hcan m
  ·have e:k=h.n:=by
    have:=of_decide_eq_false hc2;omega
   subst e;(repeat' (first|exact tU|exact fun _=>rfl|exact rfl|refine aN ?_ ?_));all_goals first|exact qM0|skip
   refine⟨i+1,hlt,by omega,?_⟩;refine ent_tau [0,1,2] ⟨?_,qZ2,rfl⟩;(repeat' (first|exact tU|exact rfl|exact fun _ _=>rfl|exact Or.inl rfl|refine aN ?_ ?_));exact chI_eq fun m _=>cf_done hlt m
 ·have e:i=h.n:=by
   have:=of_decide_eq_false hc;omega
  subst e;(repeat' (first|exact tU|exact fun _=>rfl|exact rfl|refine aN ?_ ?_));refine ent_tau [0] ⟨qZ0,⟨rfl,?_,trivial⟩,rfl⟩;exact congrArg SV.agg (chI_eq fun m hm=>cf_all m)
end Go.Proofs.YthnhlkflkidemaaGreatDoor
