/-
  Parts: V32, V16h, V17h, V18h, V33.
-/
import Derived.Test.YthnhlkflkidemaaGreatDoorB30
import Derived.Test.YthnhlkflkidemaaGreatDoorB27
import Derived.Test.YthnhlkflkidemaaGreatDoorB35
set_option linter.unusedVariables false
set_option linter.unusedSimpArgs false
/-
 Contracts: Best. (--fast)
-/
namespace Go.Proofs.YthnhlkflkidemaaGreatDoor
open Go Go.Sy Srv Kuhn
set_option maxRecDepth 100000
set_option maxHeartbeats 4000000
attribute [local irreducible] CallP CodeP Ent YieldP
set_option maxHeartbeats 16000000
def H78bn(s:SD)(R:Nat→Nat):SHeap:=
 [some .dead,some .dead,some .dead,some (.roa 5 s.n s.F),some (.roc (bcv s R 3 (.osl false 3 1 0 0))),some .dead,some (.cells [.ptr 4 0]),some .dead]
theorem t78bn(s:SD)(R:Nat→Nat)(hs:s.Ok R)(h0:s.n=0)(L:List Nat)(o:Nat→Nat)(hL:OrdL s L o false 0):
  CallP Tryz.prog 78 [.ptr 4 0,.agg [.fn (.func 79) [] [.ptr 6 0]]] (H78bn s R) (fun ce h'=>match bestF s.n (fun p=>walkS s L p) (plansL s R L (2^s.n-1))with
   |none=>ce= .panic (.iface 196 (.int .i64 4))∧h'=H78bn s R
   |some (q,k)=>ce= .ret (.tup [.int .i64 k,.slice 8 1 0 s.n s.n])∧h'=H78bn s R++[some (.arr 1 s.n s.n (rowI q))]):=by
 have c:=t78b s R o false 0 hs L hL (fun x _ i hi=>absurd hi (by omega));obtain⟨F,hF⟩: ∃F,bestF s.n (fun p=>walkS s L p) (plansL s R L (2^s.n-1))=F:=⟨_,rfl⟩;rw[hF]at c⊢;refine CallP.ent (CallP.pre (args':=[.ptr 4 0,.agg [.fn (.func 79) [] [.ptr 6 0]]]) (h':=(H78bn s R).set 4 (some (.roc (bcv s R 3 (.osl false 8 1 s.n 0))))++[some (.roa 1 0 (rowN o))]) (Ent.trans (entRoc (i:=4) (cs:=bcv s R 3 (.osl false 3 1 0 0)) (cs':=bcv s R 3 (.osl false 8 1 s.n 0)) rfl (bcv_nil s R 3 3 8 h0)) (entAlias (i:=3) rfl 1 (rowN o))) (CallP.frameH c [0,1,2,3,4,8,6,7] ?_ rfl ?_))
 ·(repeat' first|exact fp|refine aN ?_ ?_);all_goals first|exact h0.symm|exact h0|exact fun k hk=>rfl|skip
 cases F with
 |none=>
  rintro ce h' ⟨rfl,rfl⟩;refine⟨rfl,.panic (.iface 196 (.int .i64 4)),H78bn s R,⟨rfl,rfl⟩,?_⟩;refine Ent.trans (entRoc (i:=4) (cs:=bcv s R 3 (.osl false 8 1 s.n 0)) (cs':=bcv s R 3 (.osl false 3 1 0 0)) rfl (fun η=>(bcv_nil s R 3 3 8 h0 η).symm)) ?_;exact ent_tau [0,1,2,3,4,5,6,7] ⟨fPp,tMm,rfl⟩
 |some y=>
  obtain⟨q,k⟩:=y;rintro ce h' ⟨rfl,rfl⟩;refine⟨rfl,.ret (.tup [.int .i64 k,.slice 8 1 0 s.n s.n]),H78bn s R++[some (.arr 1 s.n s.n (rowI q))],⟨rfl,rfl⟩,?_⟩;refine Ent.trans (entRoc (i:=4) (cs:=bcv s R 3 (.osl false 8 1 s.n 0)) (cs':=bcv s R 3 (.osl false 3 1 0 0)) rfl (fun η=>(bcv_nil s R 3 3 8 h0 η).symm)) ?_;exact ent_tau [0,1,2,3,4,5,6,7,9] ⟨fPp,tMm,rfl⟩
noncomputable def SD.bestW(s:SD):Option ((Nat→Int)×Int):=bestF s.n (fun p=>walkS s (sbR s s.RM).ord p) (plansL s s.RM (sbR s s.RM).ord (2^s.n-1))
theorem t25(s:SD):CallP Tryz.prog 25 [SA s] (HS s) (KG s s.bestW):=by
 have c:=o62a s;unfold KO at c;obtain⟨e,he⟩: ∃e,s.oe true=e:=⟨_,rfl⟩;rw[he]at c;refine callDR (E:=E) E_ok Tryz.func25 rfl (g:=61) (k1:=5) (k2:=2) Tryz.func61 isrec61 rfl ?_;(repeat' first|exact aq|refine aN ?_ ?_|exact tU);all_goals try exact dd
 refine CallP.frameH c [0,1,2,3,4,5,7] (fPp) rfl ?_;rintro ce h' (⟨h0,rfl,rfl⟩|⟨h0,⟨hv,hVt,ha⟩,hn,rfl,rfl⟩|⟨h0,⟨hv,hVt,ha⟩,hn,co,c1,c2,rfl,rfl⟩)
 ·refine⟨rfl,?_⟩;(repeat' first|exact aq|refine aN ?_ ?_|exact tU);all_goals try exact dd
  all_goals(repeat' first|exact aq|refine aN ?_ ?_|exact tU)
  all_goals try exact dd
  all_goals intro h1
  all_goals first|exact absurd h1 (by decide)|(cases h1;done)|skip
  all_goals(repeat' first|exact aq|refine aN ?_ ?_|exact tU)
  all_goals try exact dd
  all_goals(repeat' first|exact aq|refine aN ?_ ?_|exact tU)
  all_goals try exact dd
  all_goals intro h2
  all_goals first|exact absurd h2 (by decide)|(cases h2;done)|skip
  all_goals(repeat' first|exact aq|refine aN ?_ ?_|exact tU)
  all_goals try exact dd
  refine⟨.ret (.tup [.int .i64 0,.snil,.int .i64 e]),HS s,Or.inl ⟨by unfold SD.got;rw[he,if_neg h0],by unfold SD.gotE;rw[he,if_neg h0],rfl⟩,?_⟩;exact ent_tau [0,1,2,3,4,5] ⟨fPp,tMm,rfl⟩
 ·subst h0;have hok:=hv.okM;have hn5:=hv.2.2.2.1;have c78:=t78bn s s.RM hok hn _ _ (SD.Valid.ordN hn);obtain⟨F,hF⟩: ∃F,s.bestW=F:=⟨_,rfl⟩;unfold SD.bestW at hF;rw[hF]at c78;have hG:s.got s.bestW=F:=by
   unfold SD.got SD.bestW;rw[he,if_pos rfl,hF]
  have hE:s.gotE s.bestW=errN F:=by
   unfold SD.gotE SD.bestW;rw[he,if_pos rfl,hF]
  refine⟨rfl,?_⟩;(repeat' first|exact aq|refine aN ?_ ?_|exact tU);all_goals try exact dd
  refine CallP.frameH c78 [0,1,2,5,8,0,9,0] (fPp) rfl ?_;cases F with
  |none=>
   rintro ce h' ⟨rfl,rfl⟩;refine⟨rfl,?_⟩;(repeat' first|exact aq|refine aN ?_ ?_|exact tU);all_goals try exact dd
   all_goals(repeat' first|exact aq|refine aN ?_ ?_|exact tU)
   all_goals try exact dd
   all_goals intro h1
   all_goals first|exact absurd h1 (by decide)|(cases h1;done)|skip
   all_goals(repeat' first|exact aq|refine aN ?_ ?_|exact tU)
   all_goals try exact dd
   all_goals(repeat' first|exact aq|refine aN ?_ ?_|exact tU)
   all_goals try exact dd
   all_goals intro h2
   all_goals first|exact absurd h2 (by decide)|(cases h2;done)|skip
   all_goals(repeat' first|exact aq|refine aN ?_ ?_|exact tU)
   all_goals try exact dd
   refine⟨.ret (.tup [.int .i64 0,.snil,.int .i64 4]),HS s,Or.inl ⟨hG,by rw[hE];rfl,rfl⟩,?_⟩;exact ent_tau [0,1,2,3,4,5] ⟨fPp,tMm,rfl⟩
  |some y=>
   obtain⟨q,k⟩:=y;rintro ce h' ⟨rfl,rfl⟩;refine⟨rfl,?_⟩;(repeat' first|exact aq|refine aN ?_ ?_|exact tU);all_goals try exact dd
   all_goals(repeat' first|exact aq|refine aN ?_ ?_|exact tU)
   all_goals try exact dd
   all_goals intro h1
   all_goals first|exact absurd h1 (by decide)|(cases h1;done)|skip
   all_goals(repeat' first|exact aq|refine aN ?_ ?_|exact tU)
   all_goals try exact dd
   refine⟨.ret (.tup [.int .i64 k,.slice 6 1 0 s.n s.n,.int .i64 0]),HS s++[some (.arr 1 s.n s.n (rowI q))],Or.inr ⟨q,k,hG,rfl,rfl⟩,?_⟩;exact ent_tau [0,1,2,3,4,5,10] ⟨fPp,tMm,rfl⟩
 ·subst h0;have hok:=hv.okM;have hn5:=hv.2.2.2.1;have c78:=t78b s s.RM (srtF s.fr s.n) true co hok _ (ordL_ok s s.RM (Or.inr ⟨hn,rfl,c1⟩)) (plans_rng hv);obtain⟨F,hF⟩: ∃F,s.bestW=F:=⟨_,rfl⟩;unfold SD.bestW at hF;rw[hF]at c78;have hG:s.got s.bestW=F:=by
   unfold SD.got SD.bestW;rw[he,if_pos rfl,hF]
  have hE:s.gotE s.bestW=errN F:=by
   unfold SD.gotE SD.bestW;rw[he,if_pos rfl,hF]
  refine⟨rfl,?_⟩;(repeat' first|exact aq|refine aN ?_ ?_|exact tU);all_goals try exact dd
  refine CallP.frameH c78 [0,1,2,5,8,9,10,0] (fPp) rfl ?_;cases F with
  |none=>
   rintro ce h' ⟨rfl,rfl⟩;refine⟨rfl,?_⟩;(repeat' first|exact aq|refine aN ?_ ?_|exact tU);all_goals try exact dd
   all_goals(repeat' first|exact aq|refine aN ?_ ?_|exact tU)
   all_goals try exact dd
   all_goals intro h1
   all_goals first|exact absurd h1 (by decide)|(cases h1;done)|skip
   all_goals(repeat' first|exact aq|refine aN ?_ ?_|exact tU)
   all_goals try exact dd
   all_goals(repeat' first|exact aq|refine aN ?_ ?_|exact tU)
   all_goals try exact dd
   all_goals intro h2
   all_goals first|exact absurd h2 (by decide)|(cases h2;done)|skip
   all_goals(repeat' first|exact aq|refine aN ?_ ?_|exact tU)
   all_goals try exact dd
   refine⟨.ret (.tup [.int .i64 0,.snil,.int .i64 4]),HS s,Or.inl ⟨hG,by rw[hE];rfl,rfl⟩,?_⟩;exact ent_tau [0,1,2,3,4,5] ⟨fPp,tMm,rfl⟩
  |some y=>
   obtain⟨q,k⟩:=y;rintro ce h' ⟨rfl,rfl⟩;refine⟨rfl,?_⟩;(repeat' first|exact aq|refine aN ?_ ?_|exact tU);all_goals try exact dd
   all_goals(repeat' first|exact aq|refine aN ?_ ?_|exact tU)
   all_goals try exact dd
   all_goals intro h1
   all_goals first|exact absurd h1 (by decide)|(cases h1;done)|skip
   all_goals(repeat' first|exact aq|refine aN ?_ ?_|exact tU)
   all_goals try exact dd
   refine⟨.ret (.tup [.int .i64 k,.slice 6 1 0 s.n s.n,.int .i64 0]),HS s++[some (.arr 1 s.n s.n (rowI q))],Or.inr ⟨q,k,hG,rfl,rfl⟩,?_⟩;exact ent_tau [0,1,2,3,4,5,11] ⟨fPp,tMm,rfl⟩
noncomputable def L147h:SObj:= .loopr ([none,none,none,none,some (.ptr 9 0),some (.ptr 10 0),some (.ptr 11 0),some (.ptr 12 0),some (.ptr 13 0)]++List.replicate 32 none) #[12] (asS Tryz.f147) (boS Tryz.f147) .ready none
noncomputable def P147h(s:SD)(g:Option ((Nat→Int)×Int)):List (Nat×SObj):=match g with
 |none=>[(8,L147h),(9,.cells [.fn (.func 149) [] []]),(10,.cells [.fn (.func 83) [] [.ptr 15 0,.ptr 14 0]]),(11,.cells [.snil]),(12,.cells [.int .i64 0]),(13,.cells [.bool false]),(14,.cells [.ptr 4 0]),(15,.cells (svc s 3))]
 |some (q,k)=>[(8,L147h),(9,.cells [.fn (.func 149) [] []]),(10,.cells [.fn (.func 83) [] [.ptr 15 0,.ptr 14 0]]),(11,.cells [.slice 17 1 0 s.n s.n]),(12,.cells [.int .i64 k]),(13,.cells [.bool true]),(14,.cells [.ptr 4 0]),(15,.cells (svc s 3)),(17,.arr 1 s.n s.n (rowI q))]
noncomputable def C147h(s:SD)(g:Option ((Nat→Int)×Int))(_:Bool):OB:=exOB (packR (P147h s g))
noncomputable def HO147h(s:SD)(R o:Nat→Nat)(bo:Bool)(co S:Nat)(x:Nat→Int)(ns:List Nat)(g:Option ((Nat→Int)×Int))(b17:SObj):SHeap:=
 [some .dead,some .dead,some .dead,some (.roa 5 s.n s.F),some (.roc (bcv s R 3 (.osl bo 5 1 s.n co))),some (.roa 1 s.n (rowN o)),some (.roc [.ptr 4 0]),some (.roc [.int .u64 (S:Nat)]),some (.pack ns (packR (P147h s g))),some .dead,some .dead,some .dead,some .dead,some .dead,some .dead,some .dead,some .dead,some b17,some .dead]
noncomputable def HU147h(s:SD)(R o:Nat→Nat)(bo:Bool)(co S:Nat)(x:SV)(k:Int)(b:Bool)(b17 b18:SObj):SHeap:=
 [some .dead,some .dead,some .dead,some (.roa 5 s.n s.F),some (.roc (bcv s R 3 (.osl bo 5 1 s.n co))),some (.roa 1 s.n (rowN o)),some (.roc [.ptr 4 0]),some (.roc [.int .u64 (S:Nat)]),some L147h,some (.cells [.fn (.func 149) [] []]),some (.cells [.fn (.func 83) [] [.ptr 15 0,.ptr 14 0]]),some (.cells [x]),some (.cells [.int .i64 k]),some (.cells [.bool b]),some (.cells [.ptr 4 0]),some (.cells (svc s 3)),some .dead,some b17,some b18]
theorem pkN147h(s:SD)(R o:Nat→Nat)(bo:Bool)(co S:Nat)(x:Nat→Int)(k:Int):Ent 19 ⟨TB,HU147h s R o bo co S (.slice 17 1 0 s.n s.n) k true (.arr 1 s.n s.n (rowI x)) .dead,[]⟩ ⟨TB,HI s R o bo co S (C147h s (some (x,k)) true)++[some .dead,some .dead],[]⟩:=
 ((entPack (n:=19) (T:=TB) (H:=HU147h s R o bo co S (.slice 17 1 0 s.n s.n) k true (.arr 1 s.n s.n (rowI x)) .dead) (D:=[]) NSY (P147h s (some (x,k))) 8 (fPp) rfl rfl).trans
  (entCloseEx (i:=8) (k:=17) (ns:=NSS) rfl)).trans (ent_tau [0,1,2,3,4,5,6,7,8,9,10,11,12,13,14,15,16,17,18] ⟨fPp,tMm,rfl⟩)
theorem pkO147h(s:SD)(R o:Nat→Nat)(bo:Bool)(co S:Nat)(q:Nat→Int)(k:Int):Ent 19 ⟨TB,HU147h s R o bo co S (.slice 18 1 0 s.n s.n) k true .dead (.arr 1 s.n s.n (rowI q)),[]⟩ ⟨TB,HI s R o bo co S (C147h s (some (q,k)) true)++[some .dead,some .dead],[]⟩:=
 ((entPack (n:=19) (T:=TB) (H:=HU147h s R o bo co S (.slice 18 1 0 s.n s.n) k true .dead (.arr 1 s.n s.n (rowI q))) (D:=[]) NSX (P147h s (some (q,k))) 8 (fPp) rfl rfl).trans
  (entCloseEx (i:=8) (k:=18) (ns:=NSS) rfl)).trans (ent_tau [0,1,2,3,4,5,6,7,8,9,10,11,12,13,14,15,16,17,18] ⟨fPp,tMm,rfl⟩)
theorem y147h(s:SD)(R o:Nat→Nat)(bo:Bool)(co:Nat)(hs:s.Ok R)(hV:(sbR s R).Vld)(hL:OrdL s (sbR s R).ord o bo co)(S:Nat)(g:Option ((Nat→Int)×Int))(x:Nat→Int)(hp:(sbR s R).Pln x):
  YieldP Tryz.prog 8 [.slice 17 1 0 s.n s.n] (HI s R o bo co S (C147h s g true)++[some (.arr 1 s.n s.n (rowI x))]) (Ret (.bool true) (HI s R o bo co S (C147h s (some (pick147 s.n (fun p=>(needS s R p:Nat)) g x)) true)++[some .dead,some .dead])):=by
 have c:=t83 s R o bo co hs hV hL x hp;have hn5:=hs.n5;generalize hK:((needS s R x:Nat):Int)=K at c;cases g with
 |none=>
  have e:pick147 s.n (fun p=>(needS s R p:Nat)) none x=(x,K):=by rw[←hK];rfl
  rw[e];refine YieldP.pre ((entOpenEx (i:=8) (ns:=NSS) (ob:=packR (P147h s none)) rfl).trans (entUnpack (n:=18) (T:=argT [.slice 17 1 0 s.n s.n]) (H:=HO147h s R o bo co S x NSX none (.arr 1 s.n s.n (rowI x))) (D:=[]) NSX (P147h s none) 8 rfl rfl rfl ⟨trivial,trivial,trivial,trivial,trivial,trivial,trivial,trivial,trivial⟩)) (show(8:Nat)<18 by decide) ?_;refine YieldP.ent (roundP E_ok rfl rfl fun l=>?_);(repeat' first|exact aq|refine aN ?_ ?_|exact tU);all_goals try exact dd
  refine c.use [0,1,2,3,4,5,14,17,15] ?_ (fPp) rfl;all_goals(repeat' first|exact aq|refine aN ?_ ?_|exact tU)
  all_goals try exact dd
  all_goals intro h1
  all_goals first|exact absurd h1 (by decide)|(cases h1;done)|skip
  all_goals(repeat' first|exact aq|refine aN ?_ ?_|exact tU)
  all_goals try exact dd
  all_goals intro h2
  all_goals first|exact absurd h2 (by decide)|(cases h2;done)|skip
  all_goals(repeat' first|exact aq|refine aN ?_ ?_|exact tU)
  all_goals try exact dd
  all_goals refine⟨_,_,⟨rfl,rfl⟩,?_⟩
  all_goals refine Ent.trans ?_ (pkN147h s R o bo co S x K)
  all_goals exact ent_tau [0,1,2,3,4,5,6,7,8,9,10,11,12,13,14,15,16,17,18] ⟨fPp,tMm,rfl⟩
 |some y=>
  obtain⟨q,k⟩:=y;have cc:=t149 s.n s.n s.n (by omega) x q;have hlex:=cmp_lex x q s.n;obtain⟨V,hV⟩: ∃V,cmpF x q s.n 0=V:=⟨_,rfl⟩;rw[hV]at cc hlex;obtain⟨A,hA⟩: ∃A,decide (K<k)=A:=⟨_,rfl⟩;obtain⟨B,hB⟩: ∃B,decide (K=k)=B:=⟨_,rfl⟩;obtain⟨D,hD⟩: ∃D,decide (V<0)=D:=⟨_,rfl⟩;have hpk:pick147 s.n (fun p=>(needS s R p:Nat)) (some (q,k)) x=bif (A||(B&&D))then(x,K)else(q,k):=by
   rw[show pick147 s.n (fun p=>(needS s R p:Nat)) (some (q,k)) x=if K<k∨K=k∧lexB s.n x q=true then(x,K)else(q,k)by rw[←hK];rfl];rw[←hA,←hB,←hD,hlex];by_cases h1:K<k<;>by_cases h2:K=k<;>cases lexB s.n x q<;>simp[h1,h2]
  refine YieldP.pre ((entOpenEx (i:=8) (ns:=NSS) (ob:=packR (P147h s (some (q,k)))) rfl).trans (entUnpack (n:=18) (T:=argT [.slice 17 1 0 s.n s.n]) (H:=HO147h s R o bo co S x NSX (some (q,k)) (.arr 1 s.n s.n (rowI x))) (D:=[]) NSX (P147h s (some (q,k))) 8 rfl rfl rfl ⟨trivial,trivial,trivial,trivial,trivial,trivial,trivial,trivial,trivial,trivial⟩)) (show(8:Nat)<18 by decide) ?_;refine YieldP.ent (roundP E_ok rfl rfl fun l=>?_);(repeat' first|exact aq|refine aN ?_ ?_|exact tU);all_goals try exact dd
  refine c.use [0,1,2,3,4,5,14,17,15] ?_ (fPp) rfl;cases A
  ·cases B
   ·rw[hpk];all_goals(repeat' first|exact aq|refine aN ?_ ?_|exact tU)
    all_goals try exact dd
    all_goals intro h1
    all_goals first|(exfalso;(try rw[hA]at h1);(try rw[hB]at h1);exact tFx h1)|(exfalso;(try rw[hA]at h1);(try rw[hB]at h1);exact fTx h1)|skip
    all_goals(repeat' first|exact aq|refine aN ?_ ?_|exact tU)
    all_goals try exact dd
    all_goals intro h2
    all_goals first|(exfalso;(try rw[hA]at h2);(try rw[hB]at h2);exact tFx h2)|(exfalso;(try rw[hA]at h2);(try rw[hB]at h2);exact fTx h2)|skip
    all_goals(repeat' first|exact aq|refine aN ?_ ?_|exact tU)
    all_goals try exact dd
    all_goals refine⟨_,_,⟨rfl,rfl⟩,?_⟩
    all_goals refine Ent.trans ?_ (pkO147h s R o bo co S q k)
    all_goals exact ent_tau [0,1,2,3,4,5,6,7,8,9,10,11,12,13,14,15,16,17,18] ⟨fPp,tMm,rfl⟩
   ·rw[hpk];all_goals(repeat' first|exact aq|refine aN ?_ ?_|exact tU)
    all_goals try exact dd
    all_goals intro h1
    all_goals first|(exfalso;(try rw[hA]at h1);(try rw[hB]at h1);exact tFx h1)|(exfalso;(try rw[hA]at h1);(try rw[hB]at h1);exact fTx h1)|skip
    refine cc.use [17,18] ?_ (fPp) rfl;cases D
    ·all_goals(repeat' first|exact aq|refine aN ?_ ?_|exact tU)
     all_goals try exact dd
     all_goals intro h2
     all_goals first|(exfalso;(try rw[hA]at h2);(try rw[hB]at h2);(try rw[hD]at h2);exact tFx h2)|(exfalso;(try rw[hA]at h2);(try rw[hB]at h2);(try rw[hD]at h2);exact fTx h2)|skip
     all_goals(repeat' first|exact aq|refine aN ?_ ?_|exact tU)
     all_goals try exact dd
     all_goals refine⟨_,_,⟨rfl,rfl⟩,?_⟩
     all_goals refine Ent.trans ?_ (pkO147h s R o bo co S q k)
     all_goals exact ent_tau [0,1,2,3,4,5,6,7,8,9,10,11,12,13,14,15,16,17,18] ⟨fPp,tMm,rfl⟩
    ·all_goals(repeat' first|exact aq|refine aN ?_ ?_|exact tU)
     all_goals try exact dd
     all_goals intro h2
     all_goals first|(exfalso;(try rw[hA]at h2);(try rw[hB]at h2);(try rw[hD]at h2);exact tFx h2)|(exfalso;(try rw[hA]at h2);(try rw[hB]at h2);(try rw[hD]at h2);exact fTx h2)|skip
     all_goals(repeat' first|exact aq|refine aN ?_ ?_|exact tU)
     all_goals try exact dd
     all_goals refine⟨_,_,⟨rfl,rfl⟩,?_⟩
     all_goals refine Ent.trans ?_ (pkN147h s R o bo co S x K)
     all_goals exact ent_tau [0,1,2,3,4,5,6,7,8,9,10,11,12,13,14,15,16,17,18] ⟨fPp,tMm,rfl⟩
  ·rw[hpk];all_goals(repeat' first|exact aq|refine aN ?_ ?_|exact tU)
   all_goals try exact dd
   all_goals intro h1
   all_goals first|(exfalso;(try rw[hA]at h1);(try rw[hB]at h1);exact tFx h1)|(exfalso;(try rw[hA]at h1);(try rw[hB]at h1);exact fTx h1)|skip
   all_goals(repeat' first|exact aq|refine aN ?_ ?_|exact tU)
   all_goals try exact dd
   all_goals intro h2
   all_goals first|(exfalso;(try rw[hA]at h2);(try rw[hB]at h2);exact tFx h2)|(exfalso;(try rw[hA]at h2);(try rw[hB]at h2);exact fTx h2)|skip
   all_goals(repeat' first|exact aq|refine aN ?_ ?_|exact tU)
   all_goals try exact dd
   all_goals refine⟨_,_,⟨rfl,rfl⟩,?_⟩
   all_goals refine Ent.trans ?_ (pkN147h s R o bo co S x K)
   all_goals exact ent_tau [0,1,2,3,4,5,6,7,8,9,10,11,12,13,14,15,16,17,18] ⟨fPp,tMm,rfl⟩
noncomputable def G147h(s:SD)(R o:Nat→Nat)(bo:Bool)(co S:Nat)(x:SV)(k:Int)(b:Bool):SHeap:=
 [some .dead,some .dead,some .dead,some (.roa 5 s.n s.F),some (.roc (bcv s R 3 (.osl bo 5 1 s.n co))),some (.roa 1 s.n (rowN o)),some (.roc [.ptr 4 0]),some (.roc [.int .u64 (S:Nat)]),some L147h,some (.cells [.fn (.func 149) [] []]),some (.cells [.fn (.func 83) [] [.ptr 15 0,.ptr 14 0]]),some (.cells [x]),some (.cells [.int .i64 k]),some (.cells [.bool b]),some (.cells [.ptr 4 0]),some (.cells (svc s 3))]
noncomputable def GP147h(s:SD)(R o:Nat→Nat)(bo:Bool)(co S:Nat)(ob:OB):SHeap:=
 [some .dead,some .dead,some .dead,some (.roa 5 s.n s.F),some (.roc (bcv s R 3 (.osl bo 5 1 s.n co))),some (.roa 1 s.n (rowN o)),some (.roc [.ptr 4 0]),some (.roc [.int .u64 (S:Nat)]),some (.pack S16 ob),some .dead,some .dead,some .dead,some .dead,some .dead,some .dead,some .dead]
noncomputable def GO147h(s:SD)(R o:Nat→Nat)(bo:Bool)(co S:Nat)(ns:List Nat)(g:Option ((Nat→Int)×Int)):SHeap:=
 [some .dead,some .dead,some .dead,some (.roa 5 s.n s.F),some (.roc (bcv s R 3 (.osl bo 5 1 s.n co))),some (.roa 1 s.n (rowN o)),some (.roc [.ptr 4 0]),some (.roc [.int .u64 (S:Nat)]),some (.pack ns (packR (P147h s g))),some .dead,some .dead,some .dead,some .dead,some .dead,some .dead,some .dead,some .dead]
theorem pre147h(s:SD)(R o:Nat→Nat)(bo:Bool)(co S:Nat)(T:Tm):Ent 16 ⟨T,G147h s R o bo co S .snil 0 false,[]⟩ ⟨T,GP147h s R o bo co S (C147h s none true),[]⟩:=
 (entPack (n:=16) (T:=T) (H:=G147h s R o bo co S .snil 0 false) (D:=[]) (S16++[0]) (P147h s none) 8 (fPp) rfl rfl).trans (entCloseEx (i:=8) (k:=0) (ns:=S16) rfl)
theorem r147h(s:SD)(R:Nat→Nat)(o:Nat→Nat)(bo:Bool)(co:Nat)(hs:s.Ok R)(hV:(sbR s R).Vld)(hL:OrdL s (sbR s R).ord o bo co)(S:Nat)(hS:S<2^63)(hp: ∀x,x∈plansL s R (sbR s R).ord S→(sbR s R).Pln x):
  (bestF s.n (fun p=>(needS s R p:Nat)) (plansL s R (sbR s R).ord S)=none→CallP Tryz.prog 198 [.yld 8,.ptr 6 0,.ptr 7 0] (G147h s R o bo co S .snil 0 false) (Ret (.tup []) (G147h s R o bo co S .snil 0 false)))∧
  ∀q k,bestF s.n (fun p=>(needS s R p:Nat)) (plansL s R (sbR s R).ord S)=some (q,k)→CallP Tryz.prog 198 [.yld 8,.ptr 6 0,.ptr 7 0] (G147h s R o bo co S .snil 0 false) (Ret (.tup []) (G147h s R o bo co S (.slice 16 1 0 s.n s.n) k true++[some (.arr 1 s.n s.n (rowI q))])):=by
 have c:=t198 s R o bo co hs (sbR s R).ord hL S hS (step147 s.n (fun p=>(needS s R p:Nat))) (C147h s) (fun g x hx=>y147h s R o bo co hs hV hL S g x (hp x hx)) none
 rw[run147]at c
 simp only at c
 have h1: ∀g,bestF s.n (fun p=>(needS s R p:Nat)) (plansL s R (sbR s R).ord S)=g→CallP Tryz.prog 198 [.yld 8,.ptr 6 0,.ptr 7 0] (GP147h s R o bo co S (C147h s none true)) (Ret (.tup []) (GP147h s R o bo co S (C147h s g true))):=fun g hg=>by
  have hg':(plansL s R (sbR s R).ord S).foldl (fun g x=>some (pick147 s.n (fun p=>(needS s R p:Nat)) g x)) none=g:=hg
  rw[hg']at c
  refine c.use S16 ?_ (fPp) rfl
  exact⟨rfl,rfl⟩
 constructor
 ·intro hg
  refine CallP.pre (pre147h s R o bo co S _) ?_
  refine CallP.entR (h1 none hg) ?_
  refine(entOpenEx (i:=8) (ns:=S16) (ob:=packR (P147h s none)) rfl).trans ?_
  refine(entUnpack (n:=16) (T:=[some (none,.tup [])]) (H:=GO147h s R o bo co S (S16++[16]) none) (D:=[]) (S16++[16]) (P147h s none) 8 rfl rfl rfl ⟨trivial,trivial,trivial,trivial,trivial,trivial,trivial,trivial,trivial⟩).trans ?_
  exact ent_tau [0,1,2,3,4,5,6,7,8,9,10,11,12,13,14,15] ⟨fPp,tMm,rfl⟩
 ·intro q k hg
  refine CallP.pre (pre147h s R o bo co S _) ?_
  refine CallP.entR (h1 (some (q,k)) hg) ?_
  refine(entOpenEx (i:=8) (ns:=S16) (ob:=packR (P147h s (some (q,k)))) rfl).trans ?_
  refine(entUnpack (n:=16) (T:=[some (none,.tup [])]) (H:=GO147h s R o bo co S (S16++[16]) (some (q,k))) (D:=[]) (S16++[16]) (P147h s (some (q,k))) 8 rfl rfl rfl ⟨trivial,trivial,trivial,trivial,trivial,trivial,trivial,trivial,trivial,trivial⟩).trans ?_
  exact ent_tau [0,1,2,3,4,5,6,7,8,9,10,11,12,13,14,15,16] ⟨fPp,tMm,rfl⟩
def H147h(s:SD)(R o:Nat→Nat)(bo:Bool)(co S:Nat):SHeap:=
 [some .dead,some .dead,some .dead,some (.roa 5 s.n s.F),some (.roc (bcv s R 3 (.osl bo 5 1 s.n co))),some (.roa 1 s.n (rowN o)),some (.roc [.ptr 4 0]),some (.roc [.int .u64 (S:Nat)]),some (.cells [.ptr 4 0]),some (.cells (svc s 3))]
theorem t147h(s:SD)(R:Nat→Nat)(o:Nat→Nat)(bo:Bool)(co:Nat)(hs:s.Ok R)(hV:(sbR s R).Vld)(hL:OrdL s (sbR s R).ord o bo co)(S:Nat)(hS:S<2^63)(hp: ∀x,x∈plansL s R (sbR s R).ord S→(sbR s R).Pln x):
  CallP Tryz.prog 147 [.fn (.func 198) [] [.ptr 6 0,.ptr 7 0],.fn (.func 149) [] [],.agg [.fn (.func 83) [] [.ptr 9 0,.ptr 8 0]]] (H147h s R o bo co S) (fun ce h'=>match bestF s.n (fun p=>(needS s R p:Nat)) (plansL s R (sbR s R).ord S)with
   |none=>ce= .ret (.tup [.snil,.int .i64 0,.bool false])∧h'=H147h s R o bo co S
   |some (q,k)=>ce= .ret (.tup [.slice 10 1 0 s.n s.n,.int .i64 k,.bool true])∧h'=H147h s R o bo co S++[some (.arr 1 s.n s.n (rowI q))]):=by
 have r:=r147h s R o bo co hs hV hL S hS hp;cases hg:bestF s.n (fun p=>(needS s R p:Nat)) (plansL s R (sbR s R).ord S)with
 |none=>
  have r:=r.1 hg;refine callM (E:=E) E_ok Tryz.func147 rfl ?_;(repeat' first|exact aq|refine aN ?_ ?_|exact tU);all_goals try exact dd
  refine rangeP E_ok rfl rfl ?_;refine r.use [0,1,2,3,4,5,6,7,16,10,11,12,13,14,8,9] ?_ (fPp) rfl;refine⟨by decide,?_⟩;(repeat' first|exact aq|refine aN ?_ ?_|exact tU);refine drawP E_ok [] pl147_6s (by kernel_rfl) ?_;all_goals(repeat' first|exact aq|refine aN ?_ ?_|exact tU)
  all_goals try exact dd
  all_goals first|exact fun o h=>h|skip
  all_goals refine⟨_,_,⟨rfl,rfl⟩,?_⟩
  all_goals exact ent_tau [0,1,2,3,4,5,6,7,8,9] ⟨fPp,tMm,rfl⟩
 |some y=>
  obtain⟨q,k⟩:=y;have r:=r.2 q k hg;refine callM (E:=E) E_ok Tryz.func147 rfl ?_;(repeat' first|exact aq|refine aN ?_ ?_|exact tU);all_goals try exact dd
  refine rangeP E_ok rfl rfl ?_;refine r.use [0,1,2,3,4,5,6,7,16,10,11,12,13,14,8,9] ?_ (fPp) rfl;refine⟨by decide,?_⟩;(repeat' first|exact aq|refine aN ?_ ?_|exact tU);refine drawP E_ok [] pl147_6s (by kernel_rfl) ?_;all_goals(repeat' first|exact aq|refine aN ?_ ?_|exact tU)
  all_goals try exact dd
  all_goals first|exact fun o h=>h|skip
  all_goals refine⟨.ret (.tup [.slice 10 1 0 s.n s.n,.int .i64 k,.bool true]),H147h s R o bo co S++[some (.arr 1 s.n s.n (rowI q))],⟨rfl,rfl⟩,?_⟩
  all_goals exact ent_tau [0,1,2,3,4,5,6,7,8,9,17] ⟨fPp,tMm,rfl⟩
def H78h(s:SD)(R o:Nat→Nat)(bo:Bool)(co:Nat):SHeap:=
 [some .dead,some .dead,some .dead,some (.roa 5 s.n s.F),some (.roc (bcv s R 3 (.osl bo 5 1 s.n co))),some (.roa 1 s.n (rowN o)),some (.cells [.ptr 4 0]),some (.cells (svc s 3))]
theorem t78h(s:SD)(R:Nat→Nat)(o:Nat→Nat)(bo:Bool)(co:Nat)(hs:s.Ok R)(hV:(sbR s R).Vld)(hL:OrdL s (sbR s R).ord o bo co)(hp: ∀x,x∈plansL s R (sbR s R).ord (2^s.n-1)→(sbR s R).Pln x):
  CallP Tryz.prog 78 [.ptr 4 0,.agg [.fn (.func 83) [] [.ptr 7 0,.ptr 6 0]]] (H78h s R o bo co) (fun ce h'=>match bestF s.n (fun p=>(needS s R p:Nat)) (plansL s R (sbR s R).ord (2^s.n-1))with
   |none=>ce= .panic (.iface 196 (.int .i64 4))∧h'=H78h s R o bo co
   |some (q,k)=>ce= .ret (.tup [.int .i64 k,.slice 8 1 0 s.n s.n])∧h'=H78h s R o bo co++[some (.arr 1 s.n s.n (rowI q))]):=by
 have hn5:=hs.n5;have c90:=t90 s R o bo co hn5;have hS:2^s.n-1<2^63:=by
  have:2^s.n≤2^5:=Nat.pow_le_pow_right (by decide) hn5;have h32:(2:Nat)^5=32:=rfl;omega
 have c:=t147h s R o bo co hs hV hL (2^s.n-1) hS hp;generalize 2^s.n-1=S at c c90;cases hg:bestF s.n (fun p=>(needS s R p:Nat)) (plansL s R (sbR s R).ord S)with
 |none=>
  rw[hg]at c;simp only at c⊢;refine callK (E:=E) E_ok Tryz.func78 rfl ?_;(repeat' first|exact aq|refine aN ?_ ?_|exact tU);all_goals try exact dd
  refine drawP E_ok [8] pl78_1 (by kernel_rfl) ?_;(repeat' first|exact aq|refine aN ?_ ?_|exact tU);all_goals try exact dd
  refine c90.use [0,1,2,3,4,5] ?_ (fPp) rfl;(repeat' first|exact aq|refine aN ?_ ?_|exact tU);all_goals try exact dd
  refine(t148 (S:Nat)).use [4] ?_ (fPp) rfl;(repeat' first|exact aq|refine aN ?_ ?_|exact tU);all_goals try exact dd
  refine CallP.frameH c [0,1,2,3,4,5,9,10,6,7] (fPp) rfl ?_;rintro ce h' ⟨rfl,rfl⟩;refine⟨rfl,?_⟩;(repeat' first|exact aq|refine aN ?_ ?_|exact tU);all_goals try exact dd
  refine mustS (fun hb1=>absurd hb1 (by decide)) (fun hb1=>?_);(repeat' first|exact aq|refine aN ?_ ?_|exact tU);all_goals try exact dd
  refine⟨_,_,⟨rfl,rfl⟩,?_⟩;exact ent_tau [0,1,2,3,4,5,6,7] ⟨fPp,tMm,rfl⟩
 |some y=>
  obtain⟨q,k⟩:=y;rw[hg]at c;simp only at c⊢;refine callK (E:=E) E_ok Tryz.func78 rfl ?_;(repeat' first|exact aq|refine aN ?_ ?_|exact tU);all_goals try exact dd
  refine drawP E_ok [8] pl78_1 (by kernel_rfl) ?_;(repeat' first|exact aq|refine aN ?_ ?_|exact tU);all_goals try exact dd
  refine c90.use [0,1,2,3,4,5] ?_ (fPp) rfl;(repeat' first|exact aq|refine aN ?_ ?_|exact tU);all_goals try exact dd
  refine(t148 (S:Nat)).use [4] ?_ (fPp) rfl;(repeat' first|exact aq|refine aN ?_ ?_|exact tU);all_goals try exact dd
  refine CallP.frameH c [0,1,2,3,4,5,9,10,6,7] (fPp) rfl ?_;rintro ce h' ⟨rfl,rfl⟩;refine⟨rfl,?_⟩;(repeat' first|exact aq|refine aN ?_ ?_|exact tU);all_goals try exact dd
  refine mustS (fun hb1=>?_) (fun hb1=>absurd hb1 (by decide));(repeat' first|exact aq|refine aN ?_ ?_|exact tU);all_goals try exact dd
  refine⟨.ret (.tup [.int .i64 k,.slice 8 1 0 s.n s.n]),H78h s R o bo co++[some (.arr 1 s.n s.n (rowI q))],⟨rfl,rfl⟩,?_⟩;exact ent_tau [0,1,2,3,4,5,6,7,11] ⟨fPp,tMm,rfl⟩
def H78hn(s:SD)(R:Nat→Nat):SHeap:=
 [some .dead,some .dead,some .dead,some (.roa 5 s.n s.F),some (.roc (bcv s R 3 (.osl false 3 1 0 0))),some .dead,some (.cells [.ptr 4 0]),some (.cells (svc s 3))]
theorem t78hn(s:SD)(R:Nat→Nat)(hs:s.Ok R)(hV:(sbR s R).Vld)(h0:s.n=0)(o:Nat→Nat)(hL:OrdL s (sbR s R).ord o false 0):
  CallP Tryz.prog 78 [.ptr 4 0,.agg [.fn (.func 83) [] [.ptr 7 0,.ptr 6 0]]] (H78hn s R) (fun ce h'=>match bestF s.n (fun p=>(needS s R p:Nat)) (plansL s R (sbR s R).ord (2^s.n-1))with
   |none=>ce= .panic (.iface 196 (.int .i64 4))∧h'=H78hn s R
   |some (q,k)=>ce= .ret (.tup [.int .i64 k,.slice 8 1 0 s.n s.n])∧h'=H78hn s R++[some (.arr 1 s.n s.n (rowI q))]):=by
 have c:=t78h s R o false 0 hs hV hL (fun x _ i hi=>absurd (show i<s.n from hi) (by omega));obtain⟨F,hF⟩: ∃F,bestF s.n (fun p=>(needS s R p:Nat)) (plansL s R (sbR s R).ord (2^s.n-1))=F:=⟨_,rfl⟩;rw[hF]at c⊢;refine CallP.ent (CallP.pre (args':=[.ptr 4 0,.agg [.fn (.func 83) [] [.ptr 7 0,.ptr 6 0]]]) (h':=(H78hn s R).set 4 (some (.roc (bcv s R 3 (.osl false 8 1 s.n 0))))++[some (.roa 1 0 (rowN o))]) (Ent.trans (entRoc (i:=4) (cs:=bcv s R 3 (.osl false 3 1 0 0)) (cs':=bcv s R 3 (.osl false 8 1 s.n 0)) rfl (bcv_nil s R 3 3 8 h0)) (entAlias (i:=3) rfl 1 (rowN o))) (CallP.frameH c [0,1,2,3,4,8,6,7] ?_ rfl ?_))
 ·(repeat' first|exact fp|refine aN ?_ ?_);all_goals first|exact h0.symm|exact h0|exact fun k hk=>rfl|skip
 cases F with
 |none=>
  rintro ce h' ⟨rfl,rfl⟩;refine⟨rfl,.panic (.iface 196 (.int .i64 4)),H78hn s R,⟨rfl,rfl⟩,?_⟩;refine Ent.trans (entRoc (i:=4) (cs:=bcv s R 3 (.osl false 8 1 s.n 0)) (cs':=bcv s R 3 (.osl false 3 1 0 0)) rfl (fun η=>(bcv_nil s R 3 3 8 h0 η).symm)) ?_;exact ent_tau [0,1,2,3,4,5,6,7] ⟨fPp,tMm,rfl⟩
 |some y=>
  obtain⟨q,k⟩:=y;rintro ce h' ⟨rfl,rfl⟩;refine⟨rfl,.ret (.tup [.int .i64 k,.slice 8 1 0 s.n s.n]),H78hn s R++[some (.arr 1 s.n s.n (rowI q))],⟨rfl,rfl⟩,?_⟩;refine Ent.trans (entRoc (i:=4) (cs:=bcv s R 3 (.osl false 8 1 s.n 0)) (cs':=bcv s R 3 (.osl false 3 1 0 0)) rfl (fun η=>(bcv_nil s R 3 3 8 h0 η).symm)) ?_;exact ent_tau [0,1,2,3,4,5,6,7,9] ⟨fPp,tMm,rfl⟩
noncomputable def SD.bestN(s:SD):Option ((Nat→Int)×Int):=bestF s.n (fun p=>(needS s s.RM p:Nat)) (plansL s s.RM (sbR s s.RM).ord (2^s.n-1))
theorem t27(s:SD):CallP Tryz.prog 27 [SA s] (HS s) (KG s s.bestN):=by
 have c:=o62a s;unfold KO at c;obtain⟨e,he⟩: ∃e,s.oe true=e:=⟨_,rfl⟩;rw[he]at c;refine callDR (E:=E) E_ok Tryz.func27 rfl (g:=61) (k1:=5) (k2:=2) Tryz.func61 isrec61 rfl ?_;(repeat' first|exact aq|refine aN ?_ ?_|exact tU);all_goals try exact dd
 refine CallP.frameH c [0,1,2,3,4,5,7] (fPp) rfl ?_;rintro ce h' (⟨h0,rfl,rfl⟩|⟨h0,⟨hv,hVt,ha⟩,hn,rfl,rfl⟩|⟨h0,⟨hv,hVt,ha⟩,hn,co,c1,c2,rfl,rfl⟩)
 ·refine⟨rfl,?_⟩;(repeat' first|exact aq|refine aN ?_ ?_|exact tU);all_goals try exact dd
  all_goals(repeat' first|exact aq|refine aN ?_ ?_|exact tU)
  all_goals try exact dd
  all_goals intro h1
  all_goals first|exact absurd h1 (by decide)|(cases h1;done)|skip
  all_goals(repeat' first|exact aq|refine aN ?_ ?_|exact tU)
  all_goals try exact dd
  all_goals(repeat' first|exact aq|refine aN ?_ ?_|exact tU)
  all_goals try exact dd
  all_goals intro h2
  all_goals first|exact absurd h2 (by decide)|(cases h2;done)|skip
  all_goals(repeat' first|exact aq|refine aN ?_ ?_|exact tU)
  all_goals try exact dd
  refine⟨.ret (.tup [.int .i64 0,.snil,.int .i64 e]),HS s,Or.inl ⟨by unfold SD.got;rw[he,if_neg h0],by unfold SD.gotE;rw[he,if_neg h0],rfl⟩,?_⟩;exact ent_tau [0,1,2,3,4,5] ⟨fPp,tMm,rfl⟩
 ·subst h0;have hok:=hv.okM;have hn5:=hv.2.2.2.1;have c78:=t78hn s s.RM hok hv.vldM hn _ (SD.Valid.ordN hn);obtain⟨F,hF⟩: ∃F,s.bestN=F:=⟨_,rfl⟩;unfold SD.bestN at hF;rw[hF]at c78;have hG:s.got s.bestN=F:=by
   unfold SD.got SD.bestN;rw[he,if_pos rfl,hF]
  have hE:s.gotE s.bestN=errN F:=by
   unfold SD.gotE SD.bestN;rw[he,if_pos rfl,hF]
  refine⟨rfl,?_⟩;(repeat' first|exact aq|refine aN ?_ ?_|exact tU);all_goals try exact dd
  refine CallP.frameH c78 [0,1,2,5,8,0,9,6] (fPp) rfl ?_;cases F with
  |none=>
   rintro ce h' ⟨rfl,rfl⟩;refine⟨rfl,?_⟩;(repeat' first|exact aq|refine aN ?_ ?_|exact tU);all_goals try exact dd
   all_goals(repeat' first|exact aq|refine aN ?_ ?_|exact tU)
   all_goals try exact dd
   all_goals intro h1
   all_goals first|exact absurd h1 (by decide)|(cases h1;done)|skip
   all_goals(repeat' first|exact aq|refine aN ?_ ?_|exact tU)
   all_goals try exact dd
   all_goals(repeat' first|exact aq|refine aN ?_ ?_|exact tU)
   all_goals try exact dd
   all_goals intro h2
   all_goals first|exact absurd h2 (by decide)|(cases h2;done)|skip
   all_goals(repeat' first|exact aq|refine aN ?_ ?_|exact tU)
   all_goals try exact dd
   refine⟨.ret (.tup [.int .i64 0,.snil,.int .i64 4]),HS s,Or.inl ⟨hG,by rw[hE];rfl,rfl⟩,?_⟩;exact ent_tau [0,1,2,3,4,5] ⟨fPp,tMm,rfl⟩
  |some y=>
   obtain⟨q,k⟩:=y;rintro ce h' ⟨rfl,rfl⟩;refine⟨rfl,?_⟩;(repeat' first|exact aq|refine aN ?_ ?_|exact tU);all_goals try exact dd
   all_goals(repeat' first|exact aq|refine aN ?_ ?_|exact tU)
   all_goals try exact dd
   all_goals intro h1
   all_goals first|exact absurd h1 (by decide)|(cases h1;done)|skip
   all_goals(repeat' first|exact aq|refine aN ?_ ?_|exact tU)
   all_goals try exact dd
   refine⟨.ret (.tup [.int .i64 k,.slice 6 1 0 s.n s.n,.int .i64 0]),HS s++[some (.arr 1 s.n s.n (rowI q))],Or.inr ⟨q,k,hG,rfl,rfl⟩,?_⟩;exact ent_tau [0,1,2,3,4,5,10] ⟨fPp,tMm,rfl⟩
 ·subst h0;have hok:=hv.okM;have hn5:=hv.2.2.2.1;have c78:=t78h s s.RM (srtF s.fr s.n) true co hok hv.vldM (ordL_ok s s.RM (Or.inr ⟨hn,rfl,c1⟩)) (plans_pln hv);obtain⟨F,hF⟩: ∃F,s.bestN=F:=⟨_,rfl⟩;unfold SD.bestN at hF;rw[hF]at c78;have hG:s.got s.bestN=F:=by
   unfold SD.got SD.bestN;rw[he,if_pos rfl,hF]
  have hE:s.gotE s.bestN=errN F:=by
   unfold SD.gotE SD.bestN;rw[he,if_pos rfl,hF]
  refine⟨rfl,?_⟩;(repeat' first|exact aq|refine aN ?_ ?_|exact tU);all_goals try exact dd
  refine CallP.frameH c78 [0,1,2,5,8,9,10,6] (fPp) rfl ?_;cases F with
  |none=>
   rintro ce h' ⟨rfl,rfl⟩;refine⟨rfl,?_⟩;(repeat' first|exact aq|refine aN ?_ ?_|exact tU);all_goals try exact dd
   all_goals(repeat' first|exact aq|refine aN ?_ ?_|exact tU)
   all_goals try exact dd
   all_goals intro h1
   all_goals first|exact absurd h1 (by decide)|(cases h1;done)|skip
   all_goals(repeat' first|exact aq|refine aN ?_ ?_|exact tU)
   all_goals try exact dd
   all_goals(repeat' first|exact aq|refine aN ?_ ?_|exact tU)
   all_goals try exact dd
   all_goals intro h2
   all_goals first|exact absurd h2 (by decide)|(cases h2;done)|skip
   all_goals(repeat' first|exact aq|refine aN ?_ ?_|exact tU)
   all_goals try exact dd
   refine⟨.ret (.tup [.int .i64 0,.snil,.int .i64 4]),HS s,Or.inl ⟨hG,by rw[hE];rfl,rfl⟩,?_⟩;exact ent_tau [0,1,2,3,4,5] ⟨fPp,tMm,rfl⟩
  |some y=>
   obtain⟨q,k⟩:=y;rintro ce h' ⟨rfl,rfl⟩;refine⟨rfl,?_⟩;(repeat' first|exact aq|refine aN ?_ ?_|exact tU);all_goals try exact dd
   all_goals(repeat' first|exact aq|refine aN ?_ ?_|exact tU)
   all_goals try exact dd
   all_goals intro h1
   all_goals first|exact absurd h1 (by decide)|(cases h1;done)|skip
   all_goals(repeat' first|exact aq|refine aN ?_ ?_|exact tU)
   all_goals try exact dd
   refine⟨.ret (.tup [.int .i64 k,.slice 6 1 0 s.n s.n,.int .i64 0]),HS s++[some (.arr 1 s.n s.n (rowI q))],Or.inr ⟨q,k,hG,rfl,rfl⟩,?_⟩;exact ent_tau [0,1,2,3,4,5,11] ⟨fPp,tMm,rfl⟩
end Go.Proofs.YthnhlkflkidemaaGreatDoor
