/-
  Parts: V27, V29, V35, V11s, V11o, V12s.
-/
import Derived.Test.YthnhlkflkidemaaGreatDoorB29
import Derived.Test.YthnhlkflkidemaaGreatDoorB27
import Derived.Test.YthnhlkflkidemaaGreatDoorB26
import Derived.Test.YthnhlkflkidemaaGreatDoorB28
set_option linter.unusedVariables false
set_option linter.unusedSimpArgs false
/-
 Contracts: First. (--fast)
-/
namespace Go.Proofs.YthnhlkflkidemaaGreatDoor
open Go Go.Sy Srv Kuhn
set_option maxRecDepth 100000
set_option maxHeartbeats 4000000
attribute [local irreducible] CallP CodeP Ent YieldP
set_option maxHeartbeats 16000000
noncomputable def SD.canP(s:SD)(S:Nat):Bool:=!(plansL s s.RM (sbR s s.RM).ord S).isEmpty
noncomputable def SD.fstF(s:SD):Nat→Nat→Int×Int
 |0,_=>(0,4)
 |r+1,i=>match s.canP (2^(i+1)-1)with
  |false=>((i:Int),0)
  |true=>s.fstF r (i+1)
noncomputable def SD.firstT(s:SD):Int×Int:=if s.oe true=0 then s.fstF s.n 0 else(0,s.oe true)
theorem SD.Valid.okM{s:SD}(hv:s.Valid):s.Ok s.RM where
 n5:=hv.ok.n5;hut:=hv.ok.hut;fr:=hv.ok.fr;to:=hv.ok.to;slo:=hv.ok.slo;shi:=hv.ok.shi;pace:=hv.ok.pace;w:=hv.ok.w;R16 k:=by
  unfold SD.RM;split
  ·exact hv.ok.R16 k
  ·decide
theorem p2i{i:Nat}(h:i<5):(0≤2*(2:Int)^((i:Nat):Int).toNat-1∧2*(2:Int)^((i:Nat):Int).toNat-1≤18446744073709551615)∧(0≤2*(2:Int)^((i:Nat):Int).toNat∧2*(2:Int)^((i:Nat):Int).toNat≤18446744073709551615)∧((2^(i+1)-1:Nat):Int)=2*(2:Int)^((i:Nat):Int).toNat-1∧2^(i+1)-1<2^63:=by
 have:i=0∨i=1∨i=2∨i=3∨i=4:=by omega
 rcases this with h|h|h|h|h<;>subst h<;>decide
theorem t30(s:SD):CallP Tryz.prog 30 [SA s] (HS s) (Ret (.tup [.int .i64 (s.firstT).1,.int .i64 (s.firstT).2]) (HS s)):=by
 have c:=o62a s;unfold KO at c;unfold SD.firstT;obtain⟨e,he⟩: ∃e,s.oe true=e:=⟨_,rfl⟩;rw[he]at c⊢;obtain⟨r,hr⟩: ∃r,(if e=0 then s.fstF s.n 0 else(0,e))=r:=⟨_,rfl⟩;rw[hr];refine callDR (E:=E) E_ok Tryz.func30 rfl (g:=61) (k1:=5) (k2:=2) Tryz.func61 isrec61 rfl ?_;(repeat' first|exact aq|refine aN ?_ ?_|exact tU);all_goals try exact dd
 refine CallP.frameH c [0,1,2,3,4,5,7] (fPp) rfl ?_;rintro ce h' (⟨h0,rfl,rfl⟩|⟨h0,⟨hv,hVt,ha⟩,hn,rfl,rfl⟩|⟨h0,⟨hv,hVt,ha⟩,hn,co,c1,c2,rfl,rfl⟩)
 ·rw[if_neg h0]at hr;subst hr;refine⟨rfl,?_⟩;(repeat' first|exact aq|refine aN ?_ ?_|exact tU);all_goals try exact dd
  all_goals(repeat' first|exact aq|refine aN ?_ ?_|exact tU)
  all_goals try exact dd
  all_goals intro h1
  all_goals first|exact absurd h1 (by decide)|(cases h1;done)|skip
  all_goals(repeat' first|exact aq|refine aN ?_ ?_|exact tU)
  all_goals try exact dd
  all_goals(repeat' first|exact aq|refine aN ?_ ?_|exact tU)
  all_goals try exact dd
  all_goals intro h2
  all_goals first|exact absurd h2 (by decide)|(cases h2;done)|skip
  all_goals(repeat' first|exact aq|refine aN ?_ ?_|exact tU)
  all_goals try exact dd
  refine⟨_,_,⟨rfl,rfl⟩,?_⟩;exact ent_tau [0,1,2,3,4,5] ⟨fPp,tMm,rfl⟩
 ·rw[if_pos h0]at hr;subst h0;rw[hn,SD.fstF]at hr;subst hr;refine⟨rfl,?_⟩;(repeat' first|exact aq|refine aN ?_ ?_|exact tU);all_goals try exact dd
  refine loopP E_ok [3,4,10] (fun _:Unit=>[(11,.int .i64 0)]) (fun _ H=>H) (fun _=>True) (fun _=>0) () trivial ?_ ?_
  ·exact ent_tau [0,1,2,3,4,5,6,7,8] ⟨fPp,tMm,rfl⟩
  rintro _ _;refine And.intro ?_ (And.intro (fun hb=>?_) (fun hb=>?_))
  ·(repeat' first|exact aq|refine aN ?_ ?_|exact tU)
  ·exfalso;have:=of_decide_eq_true hb;omega
  ·(repeat' first|exact aq|refine aN ?_ ?_|exact tU);all_goals try exact dd
   all_goals(repeat' first|exact aq|refine aN ?_ ?_|exact tU)
   all_goals try exact dd
   all_goals intro h1
   all_goals first|exact absurd h1 (by decide)|(cases h1;done)|skip
   all_goals(repeat' first|exact aq|refine aN ?_ ?_|exact tU)
   all_goals try exact dd
   refine⟨_,_,⟨rfl,rfl⟩,?_⟩;exact ent_tau [0,1,2,3,4,5] ⟨fPp,tMm,rfl⟩
 ·rw[if_pos h0]at hr;subst h0;have hok:=hv.okM;have hn5:=hv.2.2.2.1;refine⟨rfl,?_⟩;(repeat' first|exact aq|refine aN ?_ ?_|exact tU);all_goals try exact dd
  refine loopP E_ok [3,4,10] (fun i:Nat=>[(11,.int .i64 (i:Nat))]) (fun _ _=>HS s++[some (.cells (svd s 5)),some (.cells [.int .i64 0]),some (.cells (bcv s s.RM 5 (.osl true 9 1 s.n co))),some (.arr 1 s.n co (rowN (srtF s.fr s.n)))]) (fun i=>i≤s.n∧s.fstF (s.n-i) i=r) (fun i=>s.n-i) 0 ⟨Nat.zero_le _,hr⟩ ?_ ?_
  ·exact ent_tau [0,1,2,3,4,5,6,7,8,9] ⟨fPp,tMm,rfl⟩
  rintro i ⟨hi,hc⟩;have ei:=z1 i;refine And.intro ?_ (And.intro (fun hb=>?_) (fun hb=>?_))
  ·(repeat' first|exact aq|refine aN ?_ ?_|exact tU)
  ·have hin:i<s.n:=by
    have:=of_decide_eq_true hb;omega
   have p2:=p2i (show i<5 by omega);have c88:=t88 s s.RM (srtF s.fr s.n) true co hok _ (ordL_ok s s.RM (Or.inr ⟨hn,rfl,c1⟩)) (2^(i+1)-1) p2.2.2.2;have hr2:s.n-i=(s.n-(i+1))+1:=by omega
   rw[hr2,SD.fstF]at hc;rw[show(!(plansL s s.RM (sbR s s.RM).ord (2^(i+1)-1)).isEmpty)=s.canP (2^(i+1)-1)from rfl,p2.2.2.1]at c88;obtain⟨B,hB⟩: ∃B,s.canP (2^(i+1)-1)=B:=⟨_,rfl⟩;rw[hB]at c88 hc;(repeat' first|exact aq|refine aN ?_ ?_|exact tU);all_goals try exact dd
   all_goals first|exact p2.1.1|exact p2.1.2|exact p2.2.1.1|exact p2.2.1.2|skip
   refine c88.use [0,1,2,5,8,9] ?_ (fPp) rfl;cases B
   ·simp only at hc;subst hc;all_goals(repeat' first|exact aq|refine aN ?_ ?_|exact tU)
    all_goals try exact dd
    all_goals intro h1
    all_goals first|exact absurd h1 (by decide)|(cases h1;done)|skip
    all_goals(repeat' first|exact aq|refine aN ?_ ?_|exact tU)
    all_goals try exact dd
    all_goals(repeat' first|exact aq|refine aN ?_ ?_|exact tU)
    all_goals try exact dd
    all_goals intro h2
    all_goals first|exact absurd h2 (by decide)|(cases h2;done)|skip
    all_goals(repeat' first|exact aq|refine aN ?_ ?_|exact tU)
    all_goals try exact dd
    refine⟨_,_,⟨rfl,rfl⟩,?_⟩;exact ent_tau [0,1,2,3,4,5] ⟨fPp,tMm,rfl⟩
   ·all_goals(repeat' first|exact aq|refine aN ?_ ?_|exact tU)
    all_goals try exact dd
    all_goals intro h1
    all_goals first|exact absurd h1 (by decide)|(cases h1;done)|skip
    all_goals(repeat' first|exact aq|refine aN ?_ ?_|exact tU)
    all_goals try exact dd
    refine⟨i+1,⟨hin,hc⟩,by omega,?_⟩;exact ent_tau [0,1,2,3,4,5,6,7,8,9] ⟨fPp,tMm,rfl⟩
  ·have hin:i=s.n:=by
    have:=of_decide_eq_false hb;omega
   subst hin;rw[Nat.sub_self,SD.fstF]at hc;subst hc;(repeat' first|exact aq|refine aN ?_ ?_|exact tU);all_goals try exact dd
   all_goals(repeat' first|exact aq|refine aN ?_ ?_|exact tU)
   all_goals try exact dd
   all_goals intro h1
   all_goals first|exact absurd h1 (by decide)|(cases h1;done)|skip
   all_goals(repeat' first|exact aq|refine aN ?_ ?_|exact tU)
   all_goals try exact dd
   refine⟨_,_,⟨rfl,rfl⟩,?_⟩;exact ent_tau [0,1,2,3,4,5] ⟨fPp,tMm,rfl⟩
end Go.Proofs.YthnhlkflkidemaaGreatDoor
/-
 Cells that are only read, said otherwise. (--fast)
-/
namespace Go.Proofs.YthnhlkflkidemaaGreatDoor
open Go Go.Sy Srv Kuhn
theorem entRoc{n:Nat}{T:Tm}{H:SHeap}{D:List SV}{i:Nat}{cs cs':List SV}(hi:H[i]?=some (some (.roc cs)))(h: ∀η,denL η cs=denL η cs'):Ent n ⟨T,H,D⟩ ⟨T,H.set i (some (.roc cs')),D⟩:=by
 intro η φ w0 Ef w a hn hs hT hD;refine⟨η,φ,fun _ _=>rfl,by simpa using hn,hs.less hi (fun _ _ hb=>hb) (fun hh=>hh) (fun ad hh=>?_),hT,hD⟩;obtain⟨c,Ty,fz,vs,h1,h2,h3⟩:=hh;exact⟨c,Ty,fz,vs,h1,by rw[←h];exact h2,h3⟩
set_option maxRecDepth 100000
set_option maxHeartbeats 4000000
attribute [local irreducible] CallP CodeP Ent YieldP
theorem bcv_nil(s:SD)(R:Nat→Nat)(i p q:Nat)(h0:s.n=0)(η:Nam):denL η (bcv s R i (.osl false p 1 0 0))=denL η (bcv s R i (.osl false q 1 s.n 0)):=by
 rw[h0];simp[bcv,den,denL]
theorem SD.Valid.ordN{s:SD}(h0:s.n=0):OrdL s (sbR s s.RM).ord (srtF s.fr s.n) false 0:=ordL_ok s s.RM (Or.inl ⟨h0,rfl,rfl⟩)
theorem SD.Valid.vldM{s:SD}(hv:s.Valid):(sbR s s.RM).Vld:=⟨hv.vld.n,hv.vld.w,hv.vld.hut,hv.vld.tm,hv.vld.sh⟩
theorem plans_all(s:SD)(R:Nat→Nat):plansL s R (sbR s R).ord (2^s.n-1)=(sbR s R).plans allB:=(plans_every (sbR s R)).symm
theorem plans_pln{s:SD}(hv:s.Valid): ∀x,x∈plansL s s.RM (sbR s s.RM).ord (2^s.n-1)→(sbR s s.RM).Pln x:=fun x hx i hi=>by
 rw[plans_all]at hx;obtain⟨k,h1,h2⟩:=((mem_plans hv.vldM.t allB x).1 hx).1.rng i hi rfl;rw[h2];omega
theorem plans_rng{s:SD}(hv:s.Valid): ∀x,x∈plansL s s.RM (sbR s s.RM).ord (2^s.n-1)→ ∀i,i<s.n→0≤x i∧x i≤3:=fun x hx i hi=>by
 have h1:=plans_pln hv x hx i hi;have h2:=hv.vldM.w;omega
def errN(F:Option ((Nat→Int)×Int)):Int:=match F with
 |none=>4
 |some _=>0
noncomputable def SD.got(s:SD)(F:Option ((Nat→Int)×Int)):Option ((Nat→Int)×Int):=if s.oe true=0 then F else none
noncomputable def SD.gotE(s:SD)(F:Option ((Nat→Int)×Int)):Int:=if s.oe true=0 then errN F else s.oe true
noncomputable def KG(s:SD)(F:Option ((Nat→Int)×Int)):CE→SHeap→Prop:=fun ce h'=>
 (s.got F=none∧ce= .ret (.tup [.int .i64 0,.snil,.int .i64 (s.gotE F)])∧h'=HS s)∨
 ∃q k,s.got F=some (q,k)∧ce= .ret (.tup [.int .i64 k,.slice 6 1 0 s.n s.n,.int .i64 0])∧h'=HS s++[some (.arr 1 s.n s.n (rowI q))]
set_option maxHeartbeats 16000000
def brV(g:Nat→Int):List SV:=[.int .i64 (g 0),.int .i64 (g 1),.int .i64 (g 2),.int .i64 (g 3),.int .i64 (g 4)]
def step18(s:SD)(R:Nat→Nat)(p:Nat→Int)(g:Nat→Int)(i:Nat)(v:Int×Int):Nat→Int:=updI g i (brkS s R i (p i).toNat v:Nat)
theorem brV_set(g:Nat→Int){i:Nat}(hi:i<5)(x:Int):((List.range 5).map fun m=>SV.int .i64 (if m=((i:Nat):Int).toNat then x else [g 0,g 1,g 2,g 3,g 4].getD m 0))=brV (updI g i x):=by
 match i,hi with
 |0,_|1,_|2,_|3,_|4,_=>rfl
noncomputable def L18(st:LoopState)(p:Option Code):SObj:= .loopr ([none,none,none,some (.ptr 12 0),none,none,none,none,some (.ptr 10 0),some (.ptr 11 0)]++List.replicate 36 none) #[24,25] (asS Tryz.f18) (boS Tryz.f18) st p
noncomputable def P18(n:Nat)(pb:Bool)(pc:Nat)(g:Nat→Int):List (Nat×SObj):=[(9,L18 .ready none),(10,.cells (brV g)),(11,.cells [.fn (.func 68) [.ptr 4 0] []]),(12,.cells [.osl pb 8 1 n pc])]
noncomputable def C18(n:Nat)(pb:Bool)(pc:Nat)(g:Nat→Int):OB:=packR (P18 n pb pc g)
noncomputable def HU18(s:SD)(R o:Nat→Nat)(bo:Bool)(co:Nat)(pb:Bool)(pc:Nat)(p:Nat→Int)(g:Nat→Int):SHeap:=
 [some .dead,some .dead,some .dead,some (.roa 5 s.n s.F),some (.roc (bcv s R 3 (.osl bo 5 1 s.n co))),some (.roa 1 s.n (rowN o)),some (.roc [.ptr 4 0]),some (.roc [.osl pb 8 1 s.n pc]),some (.roa 1 s.n (rowI p)),some (L18 .ready none),some (.cells (brV g)),some (.cells [.fn (.func 68) [.ptr 4 0] []]),some (.cells [.osl pb 8 1 s.n pc]),some .dead,some .dead,some .dead,some .dead,some .dead]
theorem pk18(s:SD)(R o:Nat→Nat)(bo:Bool)(co:Nat)(pb:Bool)(pc:Nat)(p:Nat→Int)(g:Nat→Int)(T:Tm):Ent 18 ⟨T,HU18 s R o bo co pb pc p g,[]⟩ ⟨T,HR s R o bo co pb pc p (C18 s.n pb pc g),[]⟩:=
 entPack (n:=18) (T:=T) (H:=HU18 s R o bo co pb pc p g) (D:=[]) NSR (P18 s.n pb pc g) 9 (fPp) rfl rfl
theorem y18(s:SD)(R o:Nat→Nat)(bo:Bool)(co:Nat)(pb:Bool)(pc:Nat)(hs:s.Ok R)(p:Nat→Int)(hp: ∀i,i<s.n→0≤p i∧p i≤3)(g:Nat→Int)(i:Nat)(v:Int×Int)(hi:i<s.n)(hv:(0≤v.1∧v.1≤3)∧(-1≤v.2∧v.2≤200)):
  YieldP Tryz.prog 9 [.int .i64 (i:Nat),.agg [.int .i64 v.1,.int .i64 v.2]] (HR s R o bo co pb pc p (C18 s.n pb pc g)) (Ret (.bool true) (HR s R o bo co pb pc p (C18 s.n pb pc (step18 s R p g i v)))):=by
 have hn5:=hs.n5;have ei:=z1 i;have hpi:=hp i hi;have c68:CallP Tryz.prog 68 [.ptr 4 0,.int .i64 (i:Nat),.int .i64 (p (0+((i:Nat):Int).toNat)),.agg [.int .i64 v.1,.int .i64 v.2]] (HB s R o bo co) (Ret (.int .i64 (brkS s R i (p i).toNat v:Nat)) (HB s R o bo co)):=by
  rw[ei,←Int.toNat_of_nonneg hpi.1,Int.toNat_natCast];exact t68 s R o bo co i (p i).toNat hi hn5 (by omega) (hs.R16 i) ⟨by have:=hs.slo;omega,hs.shi⟩ hs.fr v hv.1 hv.2
 have hst:step18 s R p g i v=updI g i (brkS s R i (p i).toNat v:Nat):=rfl;generalize hB:brkS s R i (p i).toNat v=B at c68 hst;refine YieldP.pre (entUnpack (n:=18) (T:=argT [.int .i64 (i:Nat),.agg [.int .i64 v.1,.int .i64 v.2]]) (H:=HR s R o bo co pb pc p (C18 s.n pb pc g)) (D:=[]) NSR (P18 s.n pb pc g) 9 rfl rfl rfl ⟨trivial,trivial,trivial,trivial,trivial⟩) (show(9:Nat)<18 by decide) ?_;refine YieldP.ent (roundP E_ok rfl rfl fun l=>?_);(repeat' first|exact aq|refine aN ?_ ?_|exact tU);all_goals try exact dd
 refine drawP E_ok [11,12,18] pl18_8 (by kernel_rfl) ?_;(repeat' first|exact aq|refine aN ?_ ?_|exact tU);all_goals try exact dd
 refine c68.use [0,1,2,3,4,5] ?_ (fPp) rfl;(repeat' first|exact aq|refine aN ?_ ?_|exact tU);all_goals try exact dd
 refine⟨_,_,⟨rfl,rfl⟩,?_⟩;rw[hst];refine Ent.trans ?_ (pk18 s R o bo co pb pc p (updI g i (B:Nat)) _);refine Ent.trans (entCells (i:=10) (cs:=(List.range 5).map fun m=>SV.int .i64 (if m=((i:Nat):Int).toNat then((B:Nat):Int)else [g 0,g 1,g 2,g 3,g 4].getD m 0)) (cs':=brV (updI g i (B:Nat))) rfl (fun η=>by rw[brV_set g (by omega)])) ?_;exact ent_tau [0,1,2,3,4,5,6,7,8,9,10,11,12,13,14,15,16,17] ⟨fPp,tMm,rfl⟩
noncomputable def G18(s:SD)(R o:Nat→Nat)(bo:Bool)(co:Nat)(pb:Bool)(pc:Nat)(p:Nat→Int)(g:Nat→Int):SHeap:=
 [some .dead,some .dead,some .dead,some (.roa 5 s.n s.F),some (.roc (bcv s R 3 (.osl bo 5 1 s.n co))),some (.roa 1 s.n (rowN o)),some (.roc [.ptr 4 0]),some (.roc [.osl pb 8 1 s.n pc]),some (.roa 1 s.n (rowI p)),some (L18 .ready none),some (.cells (brV g)),some (.cells [.fn (.func 68) [.ptr 4 0] []]),some (.cells [.osl pb 8 1 s.n pc])]
def S13:List Nat:=[0,1,2,3,4,5,6,7,8,9,10,11,12,0,0,0,0,0]
def GP18(s:SD)(R o:Nat→Nat)(bo:Bool)(co:Nat)(pb:Bool)(pc:Nat)(p:Nat→Int)(ob:OB):SHeap:=
 [some .dead,some .dead,some .dead,some (.roa 5 s.n s.F),some (.roc (bcv s R 3 (.osl bo 5 1 s.n co))),some (.roa 1 s.n (rowN o)),some (.roc [.ptr 4 0]),some (.roc [.osl pb 8 1 s.n pc]),some (.roa 1 s.n (rowI p)),some (.pack S13 ob),some .dead,some .dead,some .dead]
def chkS(s:SD)(R:Nat→Nat)(L:List Nat)(p:Nat→Int):Nat→Int:=runR s p (step18 s R p) L begS (fun _=>0)
theorem r18(s:SD)(R o:Nat→Nat)(bo:Bool)(co:Nat)(pb:Bool)(pc:Nat)(hs:s.Ok R)(L:List Nat)(hL:OrdL s L o bo co)(p:Nat→Int)(hp: ∀i,i<s.n→0≤p i∧p i≤3):
  CallP Tryz.prog 145 [.yld 9,.ptr 6 0,.ptr 7 0] (G18 s R o bo co pb pc p (fun _=>0)) (Ret (.tup []) (G18 s R o bo co pb pc p (chkS s R L p))):=by
 have c:=t145 s R o bo co hs L hL pb pc p hp (step18 s R p) (C18 s.n pb pc) (fun _ _=>True) (fun _ _ _ _ _ _ _ _=>trivial)
  (fun d g i v hd hg hi hv=>y18 s R o bo co pb pc hs p hp g i v hi hv) (fun _=>0) trivial
 have h1:CallP Tryz.prog 145 [.yld 9,.ptr 6 0,.ptr 7 0] (GP18 s R o bo co pb pc p (C18 s.n pb pc (fun _=>0))) (Ret (.tup []) (GP18 s R o bo co pb pc p (C18 s.n pb pc (chkS s R L p)))):=by
  refine c.use S13 ?_ (fPp) rfl;exact⟨rfl,rfl⟩
 refine CallP.pre (entPack (n:=13) (T:=argT [.yld 9,.ptr 6 0,.ptr 7 0]) (H:=G18 s R o bo co pb pc p (fun _=>0)) (D:=[]) S13 (P18 s.n pb pc (fun _=>0)) 9 (fPp) rfl rfl) ?_;refine CallP.entR h1 ?_;exact entUnpack (n:=13) (T:=[some (none,.tup [])]) (H:=GP18 s R o bo co pb pc p (C18 s.n pb pc (chkS s R L p))) (D:=[]) S13 (P18 s.n pb pc (chkS s R L p)) 9 rfl rfl rfl ⟨trivial,trivial,trivial,trivial,trivial⟩
noncomputable def G18n(s:SD)(R:Nat→Nat)(pb:Bool)(pc:Nat)(p:Nat→Int)(g:Nat→Int):SHeap:=
 [some .dead,some .dead,some .dead,some (.roa 5 s.n s.F),some (.roc (bcv s R 3 (.osl false 3 1 0 0))),some .dead,some (.roc [.ptr 4 0]),some (.roc [.osl pb 8 1 s.n pc]),some (.roa 1 s.n (rowI p)),some (L18 .ready none),some (.cells (brV g)),some (.cells [.fn (.func 68) [.ptr 4 0] []]),some (.cells [.osl pb 8 1 s.n pc])]
theorem r18n(s:SD)(R o:Nat→Nat)(pb:Bool)(pc:Nat)(hs:s.Ok R)(h0:s.n=0)(L:List Nat)(hL:OrdL s L o false 0)(p:Nat→Int):
  CallP Tryz.prog 145 [.yld 9,.ptr 6 0,.ptr 7 0] (G18n s R pb pc p (fun _=>0)) (Ret (.tup []) (G18n s R pb pc p (chkS s R L p))):=by
 have c:=r18 s R o false 0 pb pc hs L hL p (fun i hi=>absurd hi (by omega));refine CallP.ent (CallP.pre (args':=[.yld 9,.ptr 6 0,.ptr 7 0]) (h':=(G18n s R pb pc p (fun _=>0)).set 4 (some (.roc (bcv s R 3 (.osl false 13 1 s.n 0))))++[some (.roa 1 0 (rowN o))]) (Ent.trans (entRoc (i:=4) (cs:=bcv s R 3 (.osl false 3 1 0 0)) (cs':=bcv s R 3 (.osl false 13 1 s.n 0)) rfl (bcv_nil s R 3 3 13 h0)) (entAlias (i:=3) rfl 1 (rowN o))) (CallP.frameH c [0,1,2,3,4,13,6,7,8,9,10,11,12] ?_ rfl ?_))
 ·(repeat' first|exact fp|refine aN ?_ ?_);all_goals first|exact h0.symm|exact h0|exact fun k hk=>rfl|skip
 rintro ce h' ⟨rfl,rfl⟩;refine⟨rfl,.ret (.tup []),G18n s R pb pc p (chkS s R L p),⟨rfl,rfl⟩,?_⟩;refine Ent.trans (entRoc (i:=4) (cs:=bcv s R 3 (.osl false 13 1 s.n 0)) (cs':=bcv s R 3 (.osl false 3 1 0 0)) rfl (fun η=>(bcv_nil s R 3 3 13 h0 η).symm)) ?_;exact ent_tau [0,1,2,3,4,5,6,7,8,9,10,11,12] ⟨fPp,tMm,rfl⟩
end Go.Proofs.YthnhlkflkidemaaGreatDoor
/-
 The moves of a plan: gone through. (--fast)
-/
namespace Go.Proofs.YthnhlkflkidemaaGreatDoor
open Go Go.Sy Srv
set_option maxRecDepth 100000
set_option maxHeartbeats 4000000
attribute [local irreducible] CallP CodeP Ent YieldP
set_option maxHeartbeats 16000000
abbrev MV:=Nat→Int×Int×Int×Int
def rowM(g:MV)(k:Nat):List SV:=[.int .i64 (g k).1,.int .i64 (g k).2.1,.int .i64 (g k).2.2.1,.int .i64 (g k).2.2.2]
def setM(g:MV)(i:Nat)(x:Int×Int×Int×Int):MV:=fun k=>if k=i then x else g k
theorem stoM(g:MV)(i m:Nat)(a b c d:Int):selL (decide (m=0+((i:Nat):Int).toNat)) (splice (rowM g (0+((i:Nat):Int).toNat)) 0 [.int .i64 a,.int .i64 b,.int .i64 c,.int .i64 d]) (rowM g m)=rowM (setM g i (a,b,c,d)) m:=by
 rw[Nat.zero_add,Int.toNat_natCast];unfold rowM setM;by_cases c:m=i
 ·rw[decide_eq_true c,selL_true,if_pos c];rfl
 ·rw[decide_eq_false c,selL_false,if_neg c]
def step76(s:SD)(p:Nat→Int)(g:MV)(i:Nat)(v:Int×Int):MV:=if 0≤v.2∧0<dst v.1 (p i)then setM g i (v.2,s.hut i,dst v.1 (p i)*s.slo,dst v.1 (p i)*s.shi)else g
noncomputable def L76s(st:LoopState)(p:Option Code):SObj:= .loopr ([none,none,some (.ptr 12 0),some (.ptr 13 0),none,some (.ptr 10 0)]++List.replicate 76 none) #[17,18] (asS Tryz.f76) (boS Tryz.f76) st p
noncomputable def P76s(n:Nat)(g:MV):List (Nat×SObj):=[(9,L76s .ready none),(10,.cells [.slice 11 4 0 n n]),(11,.arr 4 n n (rowM g)),(12,.cells [.ptr 4 0]),(13,.cells [.slice 8 1 0 n n])]
noncomputable def C76s(n:Nat)(g:MV):OB:=packR (P76s n g)
noncomputable def HU76s(s:SD)(R o:Nat→Nat)(bo:Bool)(co:Nat)(p:Nat→Int)(g:MV):SHeap:=
 [some .dead,some .dead,some .dead,some (.roa 5 s.n s.F),some (.roc (bcv s R 3 (.osl bo 5 1 s.n co))),some (.roa 1 s.n (rowN o)),some (.roc [.ptr 4 0]),some (.roc [.osl true 8 1 s.n s.n]),some (.roa 1 s.n (rowI p)),some (L76s .ready none),some (.cells [.slice 11 4 0 s.n s.n]),some (.arr 4 s.n s.n (rowM g)),some (.cells [.ptr 4 0]),some (.cells [.slice 8 1 0 s.n s.n]),some .dead,some .dead,some .dead,some .dead]
theorem pk76s(s:SD)(R o:Nat→Nat)(bo:Bool)(co:Nat)(p:Nat→Int)(g:MV)(T:Tm):Ent 18 ⟨T,HU76s s R o bo co p g,[]⟩ ⟨T,HR s R o bo co true s.n p (C76s s.n g),[]⟩:=
 entPack (n:=18) (T:=T) (H:=HU76s s R o bo co p g) (D:=[]) NSR (P76s s.n g) 9 (fPp) rfl rfl
theorem y76s(s:SD)(R o:Nat→Nat)(bo:Bool)(co:Nat)(hs:s.Ok R)(p:Nat→Int)(hp: ∀i,i<s.n→0≤p i∧p i≤3)(g:MV)(i:Nat)(v:Int×Int)(hi:i<s.n)(hv:(0≤v.1∧v.1≤3)∧(-1≤v.2∧v.2≤200)):
  YieldP Tryz.prog 9 [.int .i64 (i:Nat),.agg [.int .i64 v.1,.int .i64 v.2]] (HR s R o bo co true s.n p (C76s s.n g)) (Ret (.bool true) (HR s R o bo co true s.n p (C76s s.n (step76 s p g i v)))):=by
 have hn5:=hs.n5;have ei:=z1 i;have hpi:=hp i hi;have hdd:0≤dst v.1 (p i)∧dst v.1 (p i)≤3:=by unfold dst;omega
 have hslo:=hs.slo;have hshi:=hs.shi;have c80:CallP Tryz.prog 80 [.slice 0 1 0 2 2] [some (.roa 1 2 (getOf 1 [.int .i64 v.1,.int .i64 (p (0+((i:Nat):Int).toNat))]))] (Ret (.int .i64 (dst v.1 (p i))) [some (.roa 1 2 (getOf 1 [.int .i64 v.1,.int .i64 (p (0+((i:Nat):Int).toNat))]))]):=by
  rw[ei];exact t80 v.1 (p i) ⟨by omega,by omega⟩ ⟨by omega,by omega⟩
 have hst:step76 s p g i v=if 0≤v.2∧0<dst v.1 (p i)then setM g i (v.2,s.hut i,dst v.1 (p i)*s.slo,dst v.1 (p i)*s.shi)else g:=rfl;generalize hD:dst v.1 (p i)=D at c80 hdd hst;have hm1:0≤D*s.slo∧D*s.slo≤18:=by
  rcases(show D=0∨D=1∨D=2∨D=3 by omega)with h|h|h|h<;>subst h<;>omega
 have hm2:0≤D*s.shi∧D*s.shi≤18:=by
  rcases(show D=0∨D=1∨D=2∨D=3 by omega)with h|h|h|h<;>subst h<;>omega
 refine YieldP.pre (entUnpack (n:=18) (T:=argT [.int .i64 (i:Nat),.agg [.int .i64 v.1,.int .i64 v.2]]) (H:=HR s R o bo co true s.n p (C76s s.n g)) (D:=[]) NSR (P76s s.n g) 9 rfl rfl rfl ⟨trivial,trivial,trivial,trivial,trivial,trivial⟩) (show(9:Nat)<18 by decide) ?_;refine YieldP.ent (roundP E_ok rfl rfl fun l=>?_);(repeat' first|exact aq|refine aN ?_ ?_|exact tU);all_goals try exact dd
 refine drawP E_ok [13,18] pl76_5 (by kernel_rfl) ?_;(repeat' first|exact aq|refine aN ?_ ?_|exact tU);all_goals try exact dd
 refine c80.use [19] ?_ (fPp) rfl;(repeat' first|exact aq|refine aN ?_ ?_|exact tU);all_goals try exact dd
 ·intro hc;have hc':(bif decide (v.2≥0)then decide (D>0)else false)=true:=hc;have h0:0≤v.2∧0<D:=by
   cases hq:decide (v.2≥0)with
   |true=>
    rw[hq]at hc';exact⟨of_decide_eq_true hq,of_decide_eq_true hc'⟩
   |false=>
    rw[hq]at hc';exact fTx hc'
  rw[hst,if_pos h0];(repeat' first|exact aq|refine aN ?_ ?_|exact tU);refine drawP E_ok [10,12,18] pl76_7 (by kernel_rfl) ?_;(repeat' first|exact aq|refine aN ?_ ?_|exact tU);all_goals try exact dd
  refine⟨_,_,⟨rfl,rfl⟩,?_⟩;refine Ent.trans ?_ (pk76s s R o bo co p (setM g i (v.2,s.hut i,D*s.slo,D*s.shi)) _);refine ent_tau [0,1,2,3,4,5,6,7,8,9,10,11,12,13,14,15,16,17] ⟨?_,tMm,rfl⟩;(repeat' first|exact fp|refine aN ?_ ?_);intro k hk;refine(stoM g i k v.2 (s.hut (0+((i:Nat):Int).toNat)) (D*s.slo) (D*s.shi)).trans ?_;rw[ei];rfl
 ·intro hc;have hc':(bif decide (v.2≥0)then decide (D>0)else false)=false:=hc;have h0: ¬(0≤v.2∧0<D):=fun h=>by
   rw[decide_eq_true (show v.2≥0 from h.1),decide_eq_true (show D>0 from h.2)]at hc';exact tFx hc'
  rw[hst,if_neg h0];(repeat' first|exact aq|refine aN ?_ ?_|exact tU);all_goals try exact dd
  refine⟨_,_,⟨rfl,rfl⟩,?_⟩;refine Ent.trans ?_ (pk76s s R o bo co p g _);exact ent_tau [0,1,2,3,4,5,6,7,8,9,10,11,12,13,14,15,16,17] ⟨fPp,tMm,rfl⟩
noncomputable def L76o(st:LoopState)(p:Option Code):SObj:= .loopr ([none,none,some (.ptr 12 0),some (.ptr 13 0),none,some (.ptr 10 0)]++List.replicate 76 none) #[17,18] (asS Tryz.f76) (boS Tryz.f76) st p
noncomputable def P76o(n:Nat)(pb:Bool)(pc:Nat)(g:MV):List (Nat×SObj):=[(9,L76o .ready none),(10,.cells [.slice 11 4 0 n n]),(11,.arr 4 n n (rowM g)),(12,.cells [.ptr 4 0]),(13,.cells [.osl pb 8 1 n pc])]
noncomputable def C76o(n:Nat)(pb:Bool)(pc:Nat)(g:MV):OB:=packR (P76o n pb pc g)
noncomputable def HU76o(s:SD)(R o:Nat→Nat)(bo:Bool)(co:Nat)(pb:Bool)(pc:Nat)(p:Nat→Int)(g:MV):SHeap:=
 [some .dead,some .dead,some .dead,some (.roa 5 s.n s.F),some (.roc (bcv s R 3 (.osl bo 5 1 s.n co))),some (.roa 1 s.n (rowN o)),some (.roc [.ptr 4 0]),some (.roc [.osl pb 8 1 s.n pc]),some (.roa 1 s.n (rowI p)),some (L76o .ready none),some (.cells [.slice 11 4 0 s.n s.n]),some (.arr 4 s.n s.n (rowM g)),some (.cells [.ptr 4 0]),some (.cells [.osl pb 8 1 s.n pc]),some .dead,some .dead,some .dead,some .dead]
theorem pk76o(s:SD)(R o:Nat→Nat)(bo:Bool)(co:Nat)(pb:Bool)(pc:Nat)(p:Nat→Int)(g:MV)(T:Tm):Ent 18 ⟨T,HU76o s R o bo co pb pc p g,[]⟩ ⟨T,HR s R o bo co pb pc p (C76o s.n pb pc g),[]⟩:=
 entPack (n:=18) (T:=T) (H:=HU76o s R o bo co pb pc p g) (D:=[]) NSR (P76o s.n pb pc g) 9 (fPp) rfl rfl
theorem y76o(s:SD)(R o:Nat→Nat)(bo:Bool)(co:Nat)(pb:Bool)(pc:Nat)(hs:s.Ok R)(p:Nat→Int)(hp: ∀i,i<s.n→0≤p i∧p i≤3)(g:MV)(i:Nat)(v:Int×Int)(hi:i<s.n)(hv:(0≤v.1∧v.1≤3)∧(-1≤v.2∧v.2≤200)):
  YieldP Tryz.prog 9 [.int .i64 (i:Nat),.agg [.int .i64 v.1,.int .i64 v.2]] (HR s R o bo co pb pc p (C76o s.n pb pc g)) (Ret (.bool true) (HR s R o bo co pb pc p (C76o s.n pb pc (step76 s p g i v)))):=by
 have hn5:=hs.n5;have ei:=z1 i;have hpi:=hp i hi;have hdd:0≤dst v.1 (p i)∧dst v.1 (p i)≤3:=by unfold dst;omega
 have hslo:=hs.slo;have hshi:=hs.shi;have c80:CallP Tryz.prog 80 [.slice 0 1 0 2 2] [some (.roa 1 2 (getOf 1 [.int .i64 v.1,.int .i64 (p (0+((i:Nat):Int).toNat))]))] (Ret (.int .i64 (dst v.1 (p i))) [some (.roa 1 2 (getOf 1 [.int .i64 v.1,.int .i64 (p (0+((i:Nat):Int).toNat))]))]):=by
  rw[ei];exact t80 v.1 (p i) ⟨by omega,by omega⟩ ⟨by omega,by omega⟩
 have hst:step76 s p g i v=if 0≤v.2∧0<dst v.1 (p i)then setM g i (v.2,s.hut i,dst v.1 (p i)*s.slo,dst v.1 (p i)*s.shi)else g:=rfl;generalize hD:dst v.1 (p i)=D at c80 hdd hst;have hm1:0≤D*s.slo∧D*s.slo≤18:=by
  rcases(show D=0∨D=1∨D=2∨D=3 by omega)with h|h|h|h<;>subst h<;>omega
 have hm2:0≤D*s.shi∧D*s.shi≤18:=by
  rcases(show D=0∨D=1∨D=2∨D=3 by omega)with h|h|h|h<;>subst h<;>omega
 refine YieldP.pre (entUnpack (n:=18) (T:=argT [.int .i64 (i:Nat),.agg [.int .i64 v.1,.int .i64 v.2]]) (H:=HR s R o bo co pb pc p (C76o s.n pb pc g)) (D:=[]) NSR (P76o s.n pb pc g) 9 rfl rfl rfl ⟨trivial,trivial,trivial,trivial,trivial,trivial⟩) (show(9:Nat)<18 by decide) ?_;refine YieldP.ent (roundP E_ok rfl rfl fun l=>?_);(repeat' first|exact aq|refine aN ?_ ?_|exact tU);all_goals try exact dd
 refine drawP E_ok [13,18] pl76_5 (by kernel_rfl) ?_;(repeat' first|exact aq|refine aN ?_ ?_|exact tU);all_goals try exact dd
 refine c80.use [19] ?_ (fPp) rfl;(repeat' first|exact aq|refine aN ?_ ?_|exact tU);all_goals try exact dd
 ·intro hc;have hc':(bif decide (v.2≥0)then decide (D>0)else false)=true:=hc;have h0:0≤v.2∧0<D:=by
   cases hq:decide (v.2≥0)with
   |true=>
    rw[hq]at hc';exact⟨of_decide_eq_true hq,of_decide_eq_true hc'⟩
   |false=>
    rw[hq]at hc';exact fTx hc'
  rw[hst,if_pos h0];(repeat' first|exact aq|refine aN ?_ ?_|exact tU);refine drawP E_ok [10,12,18] pl76_7 (by kernel_rfl) ?_;(repeat' first|exact aq|refine aN ?_ ?_|exact tU);all_goals try exact dd
  refine⟨_,_,⟨rfl,rfl⟩,?_⟩;refine Ent.trans ?_ (pk76o s R o bo co pb pc p (setM g i (v.2,s.hut i,D*s.slo,D*s.shi)) _);refine ent_tau [0,1,2,3,4,5,6,7,8,9,10,11,12,13,14,15,16,17] ⟨?_,tMm,rfl⟩;(repeat' first|exact fp|refine aN ?_ ?_);intro k hk;refine(stoM g i k v.2 (s.hut (0+((i:Nat):Int).toNat)) (D*s.slo) (D*s.shi)).trans ?_;rw[ei];rfl
 ·intro hc;have hc':(bif decide (v.2≥0)then decide (D>0)else false)=false:=hc;have h0: ¬(0≤v.2∧0<D):=fun h=>by
   rw[decide_eq_true (show v.2≥0 from h.1),decide_eq_true (show D>0 from h.2)]at hc';exact tFx hc'
  rw[hst,if_neg h0];(repeat' first|exact aq|refine aN ?_ ?_|exact tU);all_goals try exact dd
  refine⟨_,_,⟨rfl,rfl⟩,?_⟩;refine Ent.trans ?_ (pk76o s R o bo co pb pc p g _);exact ent_tau [0,1,2,3,4,5,6,7,8,9,10,11,12,13,14,15,16,17] ⟨fPp,tMm,rfl⟩
def zM:Int×Int×Int×Int:=(0,0,0,0)
def zeroM:MV:=fun _=>(0,0,0,0)
def S14:List Nat:=[0,1,2,3,4,5,6,7,8,9,10,11,12,13,0,0,0,0]
def movedS(s:SD)(L:List Nat)(p:Nat→Int):MV:=runR s p (step76 s p) L begS zeroM
def movesL(g:MV)(n:Nat):List (Int×Int×Int×Int):=((List.range n).map g).filter fun x=>decide (x.2.2.2>0)
theorem one1S{get:Nat→List SV}(h:allOne (get 0)=true):allOneN get 0 1:=fun k hk=>by
 have h0:k=0:=Nat.lt_one_iff.1 hk;subst h0;exact h
theorem rowIf(w:MV)(x:Int×Int×Int×Int)(m i:Nat):(i<m→rowM (fun i=>if i<m then w i else x) i=rowM w i)∧(m≤i→rowM (fun i=>if i<m then w i else x) i=rowM (fun _=>x) 0):=by
 unfold rowM;refine⟨fun h=>by simp only[if_pos h],fun h=>by simp only[if_neg (Nat.not_lt.2 h)]⟩
theorem movesL_len(g:MV)(n:Nat):(movesL g n).length≤n:=by
 unfold movesL;refine Nat.le_trans (List.length_filter_le _ _) ?_;simp
def H76(s:SD)(R o:Nat→Nat)(bo:Bool)(co:Nat)(p:Nat→Int):SHeap:=
 [some .dead,some .dead,some .dead,some (.roa 5 s.n s.F),some (.roc (bcv s R 3 (.osl bo 5 1 s.n co))),some (.roa 1 s.n (rowN o)),some (.roa 1 s.n (rowI p))]
def K76(h:SHeap)(M:List (Int×Int×Int×Int)):CE→SHeap→Prop:=fun ce h'=>
 (M=[]∧ce= .ret .snil∧h'=h)∨(0<M.length∧ ∃cap w,M.length≤cap∧cap≤9223372036854775807∧(∀k,k<M.length→M.getD k zM=w k)∧ce= .ret (.slice h.length 4 0 M.length cap)∧h'=h++[some (.arr 4 M.length cap (rowM w))])
theorem movesL_step(g:MV)(n:Nat):movesL g (n+1)=if(g n).2.2.2>0 then movesL g n++[g n]else movesL g n:=by
 unfold movesL;rw[List.range_succ,List.map_append,List.filter_append];by_cases c:(g n).2.2.2>0
 ·rw[if_pos c];simp[c]
 ·rw[if_neg c];simp[c]
noncomputable def G76s(s:SD)(R o:Nat→Nat)(bo:Bool)(co:Nat)(p:Nat→Int)(g:MV):SHeap:=
 [some .dead,some .dead,some .dead,some (.roa 5 s.n s.F),some (.roc (bcv s R 3 (.osl bo 5 1 s.n co))),some (.roa 1 s.n (rowN o)),some (.roc [.ptr 4 0]),some (.roc [.osl true 8 1 s.n s.n]),some (.roa 1 s.n (rowI p)),some (L76s .ready none),some (.cells [.slice 11 4 0 s.n s.n]),some (.arr 4 s.n s.n (rowM g)),some (.cells [.ptr 4 0]),some (.cells [.slice 8 1 0 s.n s.n])]
def GP76s(s:SD)(R o:Nat→Nat)(bo:Bool)(co:Nat)(p:Nat→Int)(ob:OB):SHeap:=
 [some .dead,some .dead,some .dead,some (.roa 5 s.n s.F),some (.roc (bcv s R 3 (.osl bo 5 1 s.n co))),some (.roa 1 s.n (rowN o)),some (.roc [.ptr 4 0]),some (.roc [.osl true 8 1 s.n s.n]),some (.roa 1 s.n (rowI p)),some (.pack S14 ob),some .dead,some .dead,some .dead,some .dead]
theorem r76s(s:SD)(R o:Nat→Nat)(bo:Bool)(co:Nat)(hs:s.Ok R)(L:List Nat)(hL:OrdL s L o bo co)(p:Nat→Int)(hp: ∀i,i<s.n→0≤p i∧p i≤3):
  CallP Tryz.prog 145 [.yld 9,.ptr 6 0,.ptr 7 0] (G76s s R o bo co p zeroM) (Ret (.tup []) (G76s s R o bo co p (movedS s L p))):=by
 have c:=t145 s R o bo co hs L hL true s.n p hp (step76 s p) (C76s s.n) (fun _ _=>True) (fun _ _ _ _ _ _ _ _=>trivial)
  (fun d g i v hd hg hi hv=>y76s s R o bo co hs p hp g i v hi hv) zeroM trivial
 have h1:CallP Tryz.prog 145 [.yld 9,.ptr 6 0,.ptr 7 0] (GP76s s R o bo co p (C76s s.n zeroM)) (Ret (.tup []) (GP76s s R o bo co p (C76s s.n (movedS s L p)))):=by
  refine c.use S14 ?_ (fPp) rfl;exact⟨rfl,rfl⟩
 refine CallP.pre (entPack (n:=14) (T:=argT [.yld 9,.ptr 6 0,.ptr 7 0]) (H:=G76s s R o bo co p zeroM) (D:=[]) S14 (P76s s.n zeroM) 9 (fPp) rfl rfl) ?_;refine CallP.entR h1 ?_;exact entUnpack (n:=14) (T:=[some (none,.tup [])]) (H:=GP76s s R o bo co p (C76s s.n (movedS s L p))) (D:=[]) S14 (P76s s.n (movedS s L p)) 9 rfl rfl rfl ⟨trivial,trivial,trivial,trivial,trivial,trivial⟩
theorem t76s(s:SD)(R o:Nat→Nat)(bo:Bool)(co:Nat)(hs:s.Ok R)(L:List Nat)(hL:OrdL s L o bo co)(p:Nat→Int)(hp: ∀i,i<s.n→0≤p i∧p i≤3):
  CallP Tryz.prog 76 [.ptr 4 0,.slice 6 1 0 s.n s.n] (H76 s R o bo co p) (K76 (H76 s R o bo co p) (movesL (movedS s L p) s.n)):=by
 have hn5:=hs.n5;have r:=r76s s R o bo co hs L hL p hp;obtain⟨g,hg⟩: ∃g,movedS s L p=g:=⟨_,rfl⟩;rw[hg]at r⊢;refine callM (E:=E) E_ok Tryz.func76 rfl ?_;(repeat' first|exact aq|refine aN ?_ ?_|exact tU);all_goals try exact dd
 all_goals first|(show(32:Int)*((s.n:Nat):Int)≤281474976710656;omega)|skip
 refine(t69s s.n s.n).use [4,6] ?_ (fPp) rfl;(repeat' first|exact aq|refine aN ?_ ?_|exact tU);all_goals try exact dd
 refine rangeP E_ok rfl rfl ?_;refine r.use [0,1,2,3,4,5,11,12,6,14,10,9,7,8] ?_ (fPp) rfl;refine⟨by decide,?_⟩;(repeat' first|exact aq|refine aN ?_ ?_|exact tU);all_goals try exact dd
 refine loopP E_ok [66,67] (fun x:Nat×Nat×MV×Nat=>match x.2.1 with
   |0=>[(4,.snil),(68,.int .i64 (x.1:Nat))]
   |m+1=>[(4,.slice 15 4 0 (m+1) x.2.2.2),(68,.int .i64 (x.1:Nat))])
  (fun x H=>match x.2.1 with
   |0=>H
   |m+1=>H++[some (.arr 4 (m+1) x.2.2.2 (rowM x.2.2.1))])
  (fun x=>x.1≤s.n∧(movesL g x.1).length=x.2.1∧(∀k,k<x.2.1→(movesL g x.1).getD k zM=x.2.2.1 k)∧(0<x.2.1→x.2.1≤x.2.2.2∧x.2.2.2≤9223372036854775807)) (fun x=>s.n-x.1) (0,0,zeroM,0) ⟨Nat.zero_le _,rfl,fun k hk=>absurd hk (Nat.not_lt_zero k),fun h=>absurd h (Nat.lt_irrefl 0)⟩ ?_ ?_
 ·refine ent_tau [0,1,2,3,4,5,6,7,8,9,10,11,12,13,14] ⟨?_,tMm,rfl⟩;(repeat' first|exact fp|refine aN ?_ ?_);exact fun o h=>h
 rintro⟨k,m,w,cap⟩ ⟨hk,hm,hw,hcap⟩;dsimp only at hk hm hw hcap;have ek:=z1 k;cases m with
 |zero=>
  refine And.intro ?_ (And.intro (fun hc=>?_) (fun hc=>?_))
  ·(repeat' first|exact aq|refine aN ?_ ?_|exact tU)
  ·have hkn:k<s.n:=by
    have:=of_decide_eq_true hc;simp only[Int.toNat_natCast]at this;omega
   (repeat' first|exact aq|refine aN ?_ ?_|exact tU);all_goals try exact dd
   ·intro hp1;have hp2:decide ((g (0+((k:Nat):Int).toNat)).2.2.2>0)=true:=hp1;rw[ek]at hp2;have hst:=movesL_step g k;rw[if_pos (of_decide_eq_true hp2)]at hst;have hnil:movesL g k=[]:=List.eq_nil_of_length_eq_zero hm;rw[hnil]at hst;(repeat' first|exact aq|refine aN ?_ ?_|exact tU);all_goals first|exact om|decide|skip
    intro c5 h51 h52;(repeat' first|exact aq|refine aN ?_ ?_|exact tU);all_goals try exact dd
    refine⟨(k+1,0+1,fun _=>g (0+((k:Nat):Int).toNat),c5),⟨hkn,by rw[hst];rfl,fun i hi=>?_,fun _=>⟨h51,h52⟩⟩,by simp only;omega,?_⟩
    ·have h0:i=0:=Nat.lt_one_iff.1 hi;subst h0;simp only;rw[hst,ek];rfl
    ·refine ent_tau [0,1,2,3,4,5,6,7,8,9,10,11,12,13,14,17] ⟨?_,tMm,rfl⟩;(repeat' first|exact fp|refine aN ?_ ?_)
     ·exact fun o h=>h
     ·intro i hi;have h0:i=0:=Nat.lt_one_iff.1 hi;subst h0;rfl
   ·intro hp1;have hp2:decide ((g (0+((k:Nat):Int).toNat)).2.2.2>0)=false:=hp1;rw[ek]at hp2;have hst:=movesL_step g k;rw[if_neg (of_decide_eq_false hp2)]at hst;(repeat' first|exact aq|refine aN ?_ ?_|exact tU);all_goals try exact dd
    refine⟨(k+1,0,w,cap),⟨hkn,by rw[hst];exact hm,fun i hi=>absurd hi (Nat.not_lt_zero i),hcap⟩,by simp only;omega,?_⟩;refine ent_tau [0,1,2,3,4,5,6,7,8,9,10,11,12,13,14] ⟨?_,tMm,rfl⟩;(repeat' first|exact fp|refine aN ?_ ?_);exact fun o h=>h
  ·have hkn:k=s.n:=by
    have:=of_decide_eq_false hc;simp only[Int.toNat_natCast]at this;omega
   subst hkn;have hn:movesL g s.n=[]:=List.eq_nil_of_length_eq_zero hm;(repeat' first|exact aq|refine aN ?_ ?_|exact tU);all_goals try exact dd
   ·exact fun o h=>h
   refine⟨_,_,.inl ⟨hn,rfl,rfl⟩,?_⟩;exact ent_tau [0,1,2,3,4,5,6] ⟨fPp,tMm,rfl⟩
 |succ m=>
  refine And.intro ?_ (And.intro (fun hc=>?_) (fun hc=>?_))
  ·(repeat' first|exact aq|refine aN ?_ ?_|exact tU)
  ·have hkn:k<s.n:=by
    have:=of_decide_eq_true hc;simp only[Int.toNat_natCast]at this;omega
   have hcp:=hcap (Nat.succ_pos m);(repeat' first|exact aq|refine aN ?_ ?_|exact tU);all_goals try exact dd
   ·intro hp1;have hp2:decide ((g (0+((k:Nat):Int).toNat)).2.2.2>0)=true:=hp1;rw[ek]at hp2;have hst:=movesL_step g k;rw[if_pos (of_decide_eq_true hp2)]at hst;have hlen:=movesL_len g k;(repeat' first|exact aq|refine aN ?_ ?_|exact tU);all_goals first|exact om|decide|skip
    all_goals first|exact hcp.2|exact hcp.1|exact one1S rfl|((with_reducible show _=_);exact rfl)|((with_reducible show _≤_);show(m+1+1)*32≤140737488355328;omega)|skip
    intro c5 h51 h52;(repeat' first|exact aq|refine aN ?_ ?_|exact tU);all_goals try exact dd
    refine⟨(k+1,m+1+1,(fun i=>if i<m+1 then w i else g (0+((k:Nat):Int).toNat)),c5),⟨hkn,by rw[hst,List.length_append,hm];rfl,fun i hi=>?_,fun _=>⟨h51,h52⟩⟩,by simp only;omega,?_⟩
    ·rw[hst];have hi:i<m+1+1:=hi;simp only;rcases Nat.lt_or_ge i (m+1)with c|c
     ·rw[if_pos c,←hw i c,List.getD_eq_getElem?_getD,List.getD_eq_getElem?_getD,List.getElem?_append_left (show i<(movesL g k).length by omega)]
     ·have hi2:i=m+1:=by omega
      rw[if_neg (by omega),ek,List.getD_eq_getElem?_getD,List.getElem?_append_right (show(movesL g k).length≤i by omega),hi2,hm,Nat.sub_self];rfl
    ·refine ent_tau [0,1,2,3,4,5,6,7,8,9,10,11,12,13,14,18] ⟨?_,tMm,rfl⟩;(repeat' first|exact fp|refine aN ?_ ?_)
     ·exact fun o h=>h
     intro i hi;have hi:i<m+1+1:=hi;have hf:=rowIf w (g (0+((k:Nat):Int).toNat)) (m+1) i;rcases Nat.lt_or_ge i (m+1)with c|c
     ·refine Eq.trans ?_ (hf.1 c).symm;show selL (decide (i<m+1)) (rowM w i) _=_;rw[decide_eq_true c,selL_true]
     ·obtain rfl:i=m+1:=by omega
      refine Eq.trans ?_ (hf.2 c).symm;show selL (decide (m+1<m+1)) (rowM w (m+1)) _=_;rw[decide_eq_false (Nat.lt_irrefl _),selL_false,Nat.sub_self];rfl
   ·intro hp1;have hp2:decide ((g (0+((k:Nat):Int).toNat)).2.2.2>0)=false:=hp1;rw[ek]at hp2;have hst:=movesL_step g k;rw[if_neg (of_decide_eq_false hp2)]at hst;(repeat' first|exact aq|refine aN ?_ ?_|exact tU);all_goals try exact dd
    refine⟨(k+1,m+1,w,cap),⟨hkn,by rw[hst];exact hm,by rw[hst];exact hw,hcap⟩,by simp only;omega,?_⟩;refine ent_tau [0,1,2,3,4,5,6,7,8,9,10,11,12,13,14,15] ⟨?_,tMm,rfl⟩;(repeat' first|exact fp|refine aN ?_ ?_);exact fun o h=>h
  ·have hkn:k=s.n:=by
    have:=of_decide_eq_false hc;simp only[Int.toNat_natCast]at this;omega
   subst hkn;have hcp:=hcap (Nat.succ_pos m);(repeat' first|exact aq|refine aN ?_ ?_|exact tU);all_goals try exact dd
   ·exact fun o h=>h
   refine⟨.ret (.slice 7 4 0 (m+1) cap),H76 s R o bo co p++[some (.arr 4 (m+1) cap (rowM w))],.inr ⟨by rw[hm];exact Nat.succ_pos m,cap,w,by rw[hm];exact hcp.1,hcp.2,by rw[hm];exact hw,by rw[hm];rfl,by rw[hm]⟩,?_⟩;exact ent_tau [0,1,2,3,4,5,6,15] ⟨fPp,tMm,rfl⟩
end Go.Proofs.YthnhlkflkidemaaGreatDoor
