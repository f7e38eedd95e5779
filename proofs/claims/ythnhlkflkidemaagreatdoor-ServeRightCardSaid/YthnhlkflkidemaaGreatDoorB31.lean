/-
  Parts: V12o, V34, Sy36, V36.
-/
import Derived.Test.YthnhlkflkidemaaGreatDoorB30
import Derived.Test.YthnhlkflkidemaaGreatDoorB28
import Derived.Test.YthnhlkflkidemaaGreatDoorB21
import Derived.Test.YthnhlkflkidemaaGreatDoorB18
set_option linter.unusedVariables false
set_option linter.unusedSimpArgs false
/-
 The moves of a plan. (--fast)
-/
namespace Go.Proofs.YthnhlkflkidemaaGreatDoor
open Go Go.Sy Srv
set_option maxRecDepth 100000
set_option maxHeartbeats 4000000
attribute [local irreducible] CallP CodeP Ent YieldP
set_option maxHeartbeats 16000000
noncomputable def G76o(s:SD)(R o:Nat→Nat)(bo:Bool)(co:Nat)(pb:Bool)(pc:Nat)(p:Nat→Int)(g:MV):SHeap:=
 [some .dead,some .dead,some .dead,some (.roa 5 s.n s.F),some (.roc (bcv s R 3 (.osl bo 5 1 s.n co))),some (.roa 1 s.n (rowN o)),some (.roc [.ptr 4 0]),some (.roc [.osl pb 8 1 s.n pc]),some (.roa 1 s.n (rowI p)),some (L76o .ready none),some (.cells [.slice 11 4 0 s.n s.n]),some (.arr 4 s.n s.n (rowM g)),some (.cells [.ptr 4 0]),some (.cells [.osl pb 8 1 s.n pc])]
def GP76o(s:SD)(R o:Nat→Nat)(bo:Bool)(co:Nat)(pb:Bool)(pc:Nat)(p:Nat→Int)(ob:OB):SHeap:=
 [some .dead,some .dead,some .dead,some (.roa 5 s.n s.F),some (.roc (bcv s R 3 (.osl bo 5 1 s.n co))),some (.roa 1 s.n (rowN o)),some (.roc [.ptr 4 0]),some (.roc [.osl pb 8 1 s.n pc]),some (.roa 1 s.n (rowI p)),some (.pack S14 ob),some .dead,some .dead,some .dead,some .dead]
theorem r76o(s:SD)(R o:Nat→Nat)(bo:Bool)(co:Nat)(pb:Bool)(pc:Nat)(hs:s.Ok R)(L:List Nat)(hL:OrdL s L o bo co)(p:Nat→Int)(hp: ∀i,i<s.n→0≤p i∧p i≤3):
  CallP Tryz.prog 145 [.yld 9,.ptr 6 0,.ptr 7 0] (G76o s R o bo co pb pc p zeroM) (Ret (.tup []) (G76o s R o bo co pb pc p (movedS s L p))):=by
 have c:=t145 s R o bo co hs L hL pb pc p hp (step76 s p) (C76o s.n pb pc) (fun _ _=>True) (fun _ _ _ _ _ _ _ _=>trivial)
  (fun d g i v hd hg hi hv=>y76o s R o bo co pb pc hs p hp g i v hi hv) zeroM trivial
 have h1:CallP Tryz.prog 145 [.yld 9,.ptr 6 0,.ptr 7 0] (GP76o s R o bo co pb pc p (C76o s.n pb pc zeroM)) (Ret (.tup []) (GP76o s R o bo co pb pc p (C76o s.n pb pc (movedS s L p)))):=by
  refine c.use S14 ?_ (fPp) rfl;exact⟨rfl,rfl⟩
 refine CallP.pre (entPack (n:=14) (T:=argT [.yld 9,.ptr 6 0,.ptr 7 0]) (H:=G76o s R o bo co pb pc p zeroM) (D:=[]) S14 (P76o s.n pb pc zeroM) 9 (fPp) rfl rfl) ?_;refine CallP.entR h1 ?_;exact entUnpack (n:=14) (T:=[some (none,.tup [])]) (H:=GP76o s R o bo co pb pc p (C76o s.n pb pc (movedS s L p))) (D:=[]) S14 (P76o s.n pb pc (movedS s L p)) 9 rfl rfl rfl ⟨trivial,trivial,trivial,trivial,trivial,trivial⟩
theorem t76o(s:SD)(R o:Nat→Nat)(bo:Bool)(co:Nat)(pb:Bool)(pc:Nat)(hs:s.Ok R)(L:List Nat)(hL:OrdL s L o bo co)(p:Nat→Int)(hp: ∀i,i<s.n→0≤p i∧p i≤3):
  CallP Tryz.prog 76 [.ptr 4 0,.osl pb 6 1 s.n pc] (H76 s R o bo co p) (K76 (H76 s R o bo co p) (movesL (movedS s L p) s.n)):=by
 have hn5:=hs.n5;have r:=r76o s R o bo co pb pc hs L hL p hp;obtain⟨g,hg⟩: ∃g,movedS s L p=g:=⟨_,rfl⟩;rw[hg]at r⊢;refine callM (E:=E) E_ok Tryz.func76 rfl ?_;(repeat' first|exact aq|refine aN ?_ ?_|exact tU);all_goals try exact dd
 all_goals first|(show(32:Int)*((s.n:Nat):Int)≤281474976710656;omega)|skip
 refine(t69o pb s.n pc).use [4,6] ?_ (fPp) rfl;(repeat' first|exact aq|refine aN ?_ ?_|exact tU);all_goals try exact dd
 refine rangeP E_ok rfl rfl ?_;refine r.use [0,1,2,3,4,5,11,12,6,14,10,9,7,8] ?_ (fPp) rfl;refine⟨by decide,?_⟩;(repeat' first|exact aq|refine aN ?_ ?_|exact tU);all_goals try exact dd
 refine loopP E_ok [66,67] (fun x:Nat×Nat×MV×Nat=>match x.2.1 with
   |0=>[(4,.snil),(68,.int .i64 (x.1:Nat))]
   |m+1=>[(4,.slice 15 4 0 (m+1) x.2.2.2),(68,.int .i64 (x.1:Nat))])
  (fun x H=>match x.2.1 with
   |0=>H
   |m+1=>H++[some (.arr 4 (m+1) x.2.2.2 (rowM x.2.2.1))])
  (fun x=>x.1≤s.n∧(movesL g x.1).length=x.2.1∧(∀k,k<x.2.1→(movesL g x.1).getD k zM=x.2.2.1 k)∧(0<x.2.1→x.2.1≤x.2.2.2∧x.2.2.2≤9223372036854775807)) (fun x=>s.n-x.1) (0,0,zeroM,0) ⟨Nat.zero_le _,rfl,fun k hk=>absurd hk (Nat.not_lt_zero k),fun h=>absurd h (Nat.lt_irrefl 0)⟩ ?_ ?_
 ·refine ent_tau [0,1,2,3,4,5,6,7,8,9,10,11,12,13,14] ⟨?_,tMm,rfl⟩;(repeat' first|exact fp|refine aN ?_ ?_);exact fun o h=>h
 rintro⟨k,m,w,cap⟩ ⟨hk,hm,hw,hcap⟩;dsimp only at hk hm hw hcap;have ek:=z1 k;cases m with
 |zero=>
  refine And.intro ?_ (And.intro (fun hc=>?_) (fun hc=>?_))
  ·(repeat' first|exact aq|refine aN ?_ ?_|exact tU)
  ·have hkn:k<s.n:=by
    have:=of_decide_eq_true hc;simp only[Int.toNat_natCast]at this;omega
   (repeat' first|exact aq|refine aN ?_ ?_|exact tU);all_goals try exact dd
   ·intro hp1;have hp2:decide ((g (0+((k:Nat):Int).toNat)).2.2.2>0)=true:=hp1;rw[ek]at hp2;have hst:=movesL_step g k;rw[if_pos (of_decide_eq_true hp2)]at hst;have hnil:movesL g k=[]:=List.eq_nil_of_length_eq_zero hm;rw[hnil]at hst;(repeat' first|exact aq|refine aN ?_ ?_|exact tU);all_goals first|exact om|decide|skip
    intro c5 h51 h52;(repeat' first|exact aq|refine aN ?_ ?_|exact tU);all_goals try exact dd
    refine⟨(k+1,0+1,fun _=>g (0+((k:Nat):Int).toNat),c5),⟨hkn,by rw[hst];rfl,fun i hi=>?_,fun _=>⟨h51,h52⟩⟩,by simp only;omega,?_⟩
    ·have h0:i=0:=Nat.lt_one_iff.1 hi;subst h0;simp only;rw[hst,ek];rfl
    ·refine ent_tau [0,1,2,3,4,5,6,7,8,9,10,11,12,13,14,17] ⟨?_,tMm,rfl⟩;(repeat' first|exact fp|refine aN ?_ ?_)
     ·exact fun o h=>h
     ·intro i hi;have h0:i=0:=Nat.lt_one_iff.1 hi;subst h0;rfl
   ·intro hp1;have hp2:decide ((g (0+((k:Nat):Int).toNat)).2.2.2>0)=false:=hp1;rw[ek]at hp2;have hst:=movesL_step g k;rw[if_neg (of_decide_eq_false hp2)]at hst;(repeat' first|exact aq|refine aN ?_ ?_|exact tU);all_goals try exact dd
    refine⟨(k+1,0,w,cap),⟨hkn,by rw[hst];exact hm,fun i hi=>absurd hi (Nat.not_lt_zero i),hcap⟩,by simp only;omega,?_⟩;refine ent_tau [0,1,2,3,4,5,6,7,8,9,10,11,12,13,14] ⟨?_,tMm,rfl⟩;(repeat' first|exact fp|refine aN ?_ ?_);exact fun o h=>h
  ·have hkn:k=s.n:=by
    have:=of_decide_eq_false hc;simp only[Int.toNat_natCast]at this;omega
   subst hkn;have hn:movesL g s.n=[]:=List.eq_nil_of_length_eq_zero hm;(repeat' first|exact aq|refine aN ?_ ?_|exact tU);all_goals try exact dd
   ·exact fun o h=>h
   refine⟨_,_,.inl ⟨hn,rfl,rfl⟩,?_⟩;exact ent_tau [0,1,2,3,4,5,6] ⟨fPp,tMm,rfl⟩
 |succ m=>
  refine And.intro ?_ (And.intro (fun hc=>?_) (fun hc=>?_))
  ·(repeat' first|exact aq|refine aN ?_ ?_|exact tU)
  ·have hkn:k<s.n:=by
    have:=of_decide_eq_true hc;simp only[Int.toNat_natCast]at this;omega
   have hcp:=hcap (Nat.succ_pos m);(repeat' first|exact aq|refine aN ?_ ?_|exact tU);all_goals try exact dd
   ·intro hp1;have hp2:decide ((g (0+((k:Nat):Int).toNat)).2.2.2>0)=true:=hp1;rw[ek]at hp2;have hst:=movesL_step g k;rw[if_pos (of_decide_eq_true hp2)]at hst;have hlen:=movesL_len g k;(repeat' first|exact aq|refine aN ?_ ?_|exact tU);all_goals first|exact om|decide|skip
    all_goals first|exact hcp.2|exact hcp.1|exact one1S rfl|((with_reducible show _=_);exact rfl)|((with_reducible show _≤_);show(m+1+1)*32≤140737488355328;omega)|skip
    intro c5 h51 h52;(repeat' first|exact aq|refine aN ?_ ?_|exact tU);all_goals try exact dd
    refine⟨(k+1,m+1+1,(fun i=>if i<m+1 then w i else g (0+((k:Nat):Int).toNat)),c5),⟨hkn,by rw[hst,List.length_append,hm];rfl,fun i hi=>?_,fun _=>⟨h51,h52⟩⟩,by simp only;omega,?_⟩
    ·rw[hst];have hi:i<m+1+1:=hi;simp only;rcases Nat.lt_or_ge i (m+1)with c|c
     ·rw[if_pos c,←hw i c,List.getD_eq_getElem?_getD,List.getD_eq_getElem?_getD,List.getElem?_append_left (show i<(movesL g k).length by omega)]
     ·have hi2:i=m+1:=by omega
      rw[if_neg (by omega),ek,List.getD_eq_getElem?_getD,List.getElem?_append_right (show(movesL g k).length≤i by omega),hi2,hm,Nat.sub_self];rfl
    ·refine ent_tau [0,1,2,3,4,5,6,7,8,9,10,11,12,13,14,18] ⟨?_,tMm,rfl⟩;(repeat' first|exact fp|refine aN ?_ ?_)
     ·exact fun o h=>h
     intro i hi;have hi:i<m+1+1:=hi;have hf:=rowIf w (g (0+((k:Nat):Int).toNat)) (m+1) i;rcases Nat.lt_or_ge i (m+1)with c|c
     ·refine Eq.trans ?_ (hf.1 c).symm;show selL (decide (i<m+1)) (rowM w i) _=_;rw[decide_eq_true c,selL_true]
     ·obtain rfl:i=m+1:=by omega
      refine Eq.trans ?_ (hf.2 c).symm;show selL (decide (m+1<m+1)) (rowM w (m+1)) _=_;rw[decide_eq_false (Nat.lt_irrefl _),selL_false,Nat.sub_self];rfl
   ·intro hp1;have hp2:decide ((g (0+((k:Nat):Int).toNat)).2.2.2>0)=false:=hp1;rw[ek]at hp2;have hst:=movesL_step g k;rw[if_neg (of_decide_eq_false hp2)]at hst;(repeat' first|exact aq|refine aN ?_ ?_|exact tU);all_goals try exact dd
    refine⟨(k+1,m+1,w,cap),⟨hkn,by rw[hst];exact hm,by rw[hst];exact hw,hcap⟩,by simp only;omega,?_⟩;refine ent_tau [0,1,2,3,4,5,6,7,8,9,10,11,12,13,14,15] ⟨?_,tMm,rfl⟩;(repeat' first|exact fp|refine aN ?_ ?_);exact fun o h=>h
  ·have hkn:k=s.n:=by
    have:=of_decide_eq_false hc;simp only[Int.toNat_natCast]at this;omega
   subst hkn;have hcp:=hcap (Nat.succ_pos m);(repeat' first|exact aq|refine aN ?_ ?_|exact tU);all_goals try exact dd
   ·exact fun o h=>h
   refine⟨.ret (.slice 7 4 0 (m+1) cap),H76 s R o bo co p++[some (.arr 4 (m+1) cap (rowM w))],.inr ⟨by rw[hm];exact Nat.succ_pos m,cap,w,by rw[hm];exact hcp.1,hcp.2,by rw[hm];exact hw,by rw[hm];rfl,by rw[hm]⟩,?_⟩;exact ent_tau [0,1,2,3,4,5,6,15] ⟨fPp,tMm,rfl⟩
open Go Go.Sy Srv Kuhn
def H76n(s:SD)(R:Nat→Nat)(p:Nat→Int):SHeap:=
 [some .dead,some .dead,some .dead,some (.roa 5 s.n s.F),some (.roc (bcv s R 3 (.osl false 3 1 0 0))),some .dead,some (.roa 1 s.n (rowI p))]
theorem t76n(s:SD)(R:Nat→Nat)(pb:Bool)(pc:Nat)(hs:s.Ok R)(h0:s.n=0)(L:List Nat)(o:Nat→Nat)(hL:OrdL s L o false 0)(p:Nat→Int):
  CallP Tryz.prog 76 [.ptr 4 0,.osl pb 6 1 s.n pc] (H76n s R p) (Ret .snil (H76n s R p)):=by
 have c:=t76o s R o false 0 pb pc hs L hL p (fun i hi=>absurd hi (by omega));unfold K76 at c;have hl:=movesL_len (movedS s L p) s.n;refine CallP.ent (CallP.pre (args':=[.ptr 4 0,.osl pb 6 1 s.n pc]) (h':=(H76n s R p).set 4 (some (.roc (bcv s R 3 (.osl false 7 1 s.n 0))))++[some (.roa 1 0 (rowN o))]) (Ent.trans (entRoc (i:=4) (cs:=bcv s R 3 (.osl false 3 1 0 0)) (cs':=bcv s R 3 (.osl false 7 1 s.n 0)) rfl (bcv_nil s R 3 3 7 h0)) (entAlias (i:=3) rfl 1 (rowN o))) (CallP.frameH c [0,1,2,3,4,7,6] ?_ rfl ?_))
 ·(repeat' first|exact fp|refine aN ?_ ?_);all_goals first|exact h0.symm|exact h0|exact fun k hk=>rfl|skip
 rintro ce h' (⟨_,rfl,rfl⟩|⟨h1,_⟩)
 ·refine⟨rfl,.ret .snil,H76n s R p,⟨rfl,rfl⟩,?_⟩;refine Ent.trans (entRoc (i:=4) (cs:=bcv s R 3 (.osl false 7 1 s.n 0)) (cs':=bcv s R 3 (.osl false 3 1 0 0)) rfl (fun η=>(bcv_nil s R 3 3 7 h0 η).symm)) ?_;exact ent_tau [0,1,2,3,4,5,6] ⟨fPp,tMm,rfl⟩
 ·omega
noncomputable def SD.movT(s:SD)(m:Nat)(pl:Nat→Int):List (Int×Int×Int×Int):=if s.oe (isPl s m pl)=0 then movesL (movedS s (sbR s s.RM).ord pl) s.n else []
noncomputable def HSp(s:SD)(m:Nat)(pl:Nat→Int):SHeap:=HS s++[some (.roa 1 m (rowI pl))]
noncomputable def KM(B:SHeap)(M:List (Int×Int×Int×Int))(e:Int):CE→SHeap→Prop:=fun ce h'=>
 (M=[]∧ce= .ret (.tup [.snil,.int .i64 e])∧h'=B)∨(0<M.length∧ ∃cap w,M.length≤cap∧cap≤9223372036854775807∧(∀k,k<M.length→M.getD k zM=w k)∧ce= .ret (.tup [.slice B.length 4 0 M.length cap,.int .i64 e])∧h'=B++[some (.arr 4 M.length cap (rowM w))])
theorem isPl_is{s:SD}{m:Nat}{pl:Nat→Int}(hw:s.t.nS≤4)(h:isPl s m pl=true):m=s.n∧ ∀i,i<s.n→0≤pl i∧pl i≤3:=by
 unfold isPl at h;simp only[Bool.and_eq_true,decide_eq_true_iff,Bool.not_eq_true',List.any_eq_false,List.mem_range]at h;refine⟨by omega,fun i hi=>?_⟩;have h2:=h.2 i (by omega);unfold badP inB at h2;simp at h2;omega
theorem t22(s:SD)(bp:Bool)(m cp:Nat)(pl:Nat→Int)(hm:m≤9223372036854775807):CallP Tryz.prog 22 [SA s,.osl bp 6 1 m cp] (HSp s m pl) (KM (HSp s m pl) (s.movT m pl) (s.oe (isPl s m pl))):=by
 have c:=o62p s bp m cp pl hm;unfold KO at c;unfold KM SD.movT;obtain⟨V,hV⟩: ∃V,isPl s m pl=V:=⟨_,rfl⟩;rw[hV]at c⊢;obtain⟨e,he⟩: ∃e,s.oe V=e:=⟨_,rfl⟩;rw[he]at c⊢;refine callDR (E:=E) E_ok Tryz.func22 rfl (g:=61) (k1:=5) (k2:=2) Tryz.func61 isrec61 rfl ?_;(repeat' first|exact aq|refine aN ?_ ?_|exact tU);all_goals try exact dd
 refine drawP E_ok [7] pl22_2 (by kernel_rfl) ?_;(repeat' first|exact aq|refine aN ?_ ?_|exact tU);all_goals try exact dd
 refine(t67 s bp m cp pl).use [0,1,2,3,4,5,6] ?_ (fPp) rfl;(repeat' first|exact aq|refine aN ?_ ?_|exact tU);all_goals try exact dd
 refine CallP.frameH c [0,1,2,3,4,5,6,9,10,11,8] (fPp) rfl ?_;rintro ce h' (⟨h0,rfl,rfl⟩|⟨h0,⟨hv,hVt,ha⟩,hn,rfl,rfl⟩|⟨h0,⟨hv,hVt,ha⟩,hn,co,c1,c2,rfl,rfl⟩)
 ·refine⟨rfl,?_⟩;(repeat' first|exact aq|refine aN ?_ ?_|exact tU);all_goals try exact dd
  all_goals(repeat' first|exact aq|refine aN ?_ ?_|exact tU)
  all_goals try exact dd
  all_goals intro h1
  all_goals first|exact absurd h1 (by decide)|(cases h1;done)|skip
  all_goals(repeat' first|exact aq|refine aN ?_ ?_|exact tU)
  all_goals try exact dd
  all_goals(repeat' first|exact aq|refine aN ?_ ?_|exact tU)
  all_goals try exact dd
  all_goals intro h2
  all_goals first|exact absurd h2 (by decide)|(cases h2;done)|skip
  all_goals(repeat' first|exact aq|refine aN ?_ ?_|exact tU)
  all_goals try exact dd
  refine⟨.ret (.tup [.snil,.int .i64 e]),HSp s m pl,Or.inl ⟨if_neg h0,rfl,rfl⟩,?_⟩;exact ent_tau [0,1,2,3,4,5,6] ⟨fPp,tMm,rfl⟩
 ·subst h0;have hok:=hv.okM;obtain⟨hmn,_⟩:=isPl_is hv.1.2.1.2 (hV.trans hVt);subst hmn;have c76:=t76n s s.RM bp cp hok hn _ _ (SD.Valid.ordN hn) pl;have hl:=movesL_len (movedS s (sbR s s.RM).ord pl) s.n;refine⟨rfl,?_⟩;(repeat' first|exact aq|refine aN ?_ ?_|exact tU);all_goals try exact dd
  refine c76.use [0,1,2,5,12,0,6] ?_ (fPp) rfl;(repeat' first|exact aq|refine aN ?_ ?_|exact tU);all_goals try exact dd
  all_goals(repeat' first|exact aq|refine aN ?_ ?_|exact tU)
  all_goals try exact dd
  all_goals intro h1
  all_goals first|exact absurd h1 (by decide)|(cases h1;done)|skip
  all_goals(repeat' first|exact aq|refine aN ?_ ?_|exact tU)
  all_goals try exact dd
  refine⟨.ret (.tup [.snil,.int .i64 0]),HSp s s.n pl,Or.inl ⟨(if_pos rfl).trans (List.length_eq_zero_iff.1 (by omega)),rfl,rfl⟩,?_⟩;exact ent_tau [0,1,2,3,4,5,6] ⟨fPp,tMm,rfl⟩
 ·subst h0;have hok:=hv.okM;obtain⟨hmn,hpl⟩:=isPl_is hv.1.2.1.2 (hV.trans hVt);subst hmn;have c76:=t76o s s.RM (srtF s.fr s.n) true co bp cp hok _ (ordL_ok s s.RM (Or.inr ⟨hn,rfl,c1⟩)) pl hpl;unfold K76 at c76;obtain⟨M,hM⟩: ∃M,movesL (movedS s (sbR s s.RM).ord pl) s.n=M:=⟨_,rfl⟩;rw[hM]at c76⊢;refine⟨rfl,?_⟩;(repeat' first|exact aq|refine aN ?_ ?_|exact tU);all_goals try exact dd
  refine CallP.frameH c76 [0,1,2,5,12,13,6] (fPp) rfl ?_;rintro ce h' (⟨h3,rfl,rfl⟩|⟨h3,cap,w,h4,h5,h6,rfl,rfl⟩)
  ·refine⟨rfl,?_⟩;(repeat' first|exact aq|refine aN ?_ ?_|exact tU);all_goals try exact dd
   all_goals(repeat' first|exact aq|refine aN ?_ ?_|exact tU)
   all_goals try exact dd
   all_goals intro h1
   all_goals first|exact absurd h1 (by decide)|(cases h1;done)|skip
   all_goals(repeat' first|exact aq|refine aN ?_ ?_|exact tU)
   all_goals try exact dd
   refine⟨.ret (.tup [.snil,.int .i64 0]),HSp s s.n pl,Or.inl ⟨(if_pos rfl).trans h3,rfl,rfl⟩,?_⟩;exact ent_tau [0,1,2,3,4,5,6] ⟨fPp,tMm,rfl⟩
  ·refine⟨rfl,?_⟩;(repeat' first|exact aq|refine aN ?_ ?_|exact tU);all_goals try exact dd
   all_goals(repeat' first|exact aq|refine aN ?_ ?_|exact tU)
   all_goals try exact dd
   all_goals intro h1
   all_goals first|exact absurd h1 (by decide)|(cases h1;done)|skip
   all_goals(repeat' first|exact aq|refine aN ?_ ?_|exact tU)
   all_goals try exact dd
   refine⟨.ret (.tup [.slice 7 4 0 M.length cap,.int .i64 0]),HSp s s.n pl++[some (.arr 4 M.length cap (rowM w))],Or.inr ?_,?_⟩
   ·rw[if_pos rfl];exact⟨h3,cap,w,h4,h5,h6,rfl,rfl⟩
   exact ent_tau [0,1,2,3,4,5,6,14] ⟨fPp,tMm,rfl⟩
end Go.Proofs.YthnhlkflkidemaaGreatDoor
/-
 Sy36: a function that ranges over a function, and defers another one which recovers itself. No program is named.
-/
namespace Go.Sy
theorem endR_leaves{E:Env}{P:Program}(hE:E.ok P){g k1 k2:Nat}{gf:Func}{rest:Code}(hg:P.funcs[g]?=some gf)(hr:IsRec2 gf k1 k2 rest)(hgE:E.fn g=true){fn:Func}{K:SV→SHeap→Prop}{x:SV}{xv:Value}{u:FrameMode}{s:St}{ob:List Prop}
  (hk:endR E P fn.results.toList g gf.ntmps k1 k2 rest K x s ob) {KC:CE→SHeap→Prop} (hKC: ∀v h1,K v h1→KC (.ret v) h1) {n:Nat} {η η':Nam} {φ':Feet} {w0 w':World} {Ef:Nat→Prop} {a:Act} (hxv:den η' x=some xv) (hu:(u= .returning∧xv= .nilIface)∨u= .panicking [{v:=xv,recovered:=false}])
  (p1:Pin n η η') (p2:n≤s.H.length) (p3:Sat η' φ' s.H w0 Ef w') (p4:TRel η' s.T a.tmps) (p5:DRel η' s.D a.defers):
  Leaves P fn a.tmps (fun e w'=> ∃ce h1 η1 φ1,KC ce h1∧n≤h1.length∧Pin n η η1∧cRel η1 ce e∧Sat η1 φ1 h1 w0 Ef w') a.defers u w':=by
 unfold endR at hk
 split at hk
 ·rename_i g' p hD
  split at hk
  ·rename_i hgg
   have hgg:g'=g:=by simpa using hgg
   subst hgg
   rw[fcP_eq,fcL_eq]at hk
   obtain⟨_,hcall⟩:=hk
   have hD':=p5
   rw[hD]at hD'
   unfold DRel at hD'
   simp only[List.mapM_cons,List.mapM_nil,denD,denL,Option.bind_eq_bind,Option.bind_some,Option.map_some,Option.bind_eq_some_iff,Option.pure_def,Option.some.injEq]at hD'
   obtain⟨d,⟨capv,⟨pv,hpv,rfl⟩,rfl⟩,hds⟩:=hD'
   rw[←hds]
   refine leaves_rec2 hE hg hr hgE (x:=xv) hu ?_
   have ht0:TRel η' (initT [p] gf.ntmps) (#[pv]++Array.replicate (gf.ntmps-1) undef):=initT_ok (vs:=[pv]) (by simp[denL,hpv]) gf.ntmps
   have ht1:=TRel.put (a:={tmps:= #[pv]++Array.replicate (gf.ntmps-1) undef,defers:=[]}) ht0 (some k1) (g:=none) (sv:=x) (v:=xv) (fun _=>hxv) (fun h=>by cases h)
   have ht2:=TRel.put (a:={tmps:=(#[pv]++Array.replicate (gf.ntmps-1) undef).setIfInBounds k1 xv,defers:=[]}) ht1 (some k2) (g:=none) (sv:=x) (v:=xv) (fun _=>hxv) (fun h=>by cases h)
   have hin:=X_ok hE rest ⟨putT (putT (initT [p] gf.ntmps) (some k1) (some (none,x))) (some k2) (some (none,x)),s.H,[]⟩ [] (endK E fn.results.toList s.T _) (fun se s'=> ∃ob',endK E fn.results.toList s.T _ se s' ob') (endK_good E fn.results.toList s.T _) (fun se s ob hk=>⟨ob,hk⟩) hcall η' η' φ' w0 Ef w' _ (Pin.refl _ _) (Nat.le_refl _) p3 ht2 rfl
   refine wp_mono (wpIn_wide.1 hin) ?_
   rintro e2 a2 w2 ⟨se2,s2,η2,φ2,⟨ob2,k2'⟩,q1,q2,qe,q3,q4,q5⟩
   unfold endK at k2'
   split at k2'
   ·rename_i hD2
    have hd2:a2.defers=[]:=by
     rw[hD2]at q5
     simpa[DRel]using q5.symm
    have fin:(match resL E ⟨s.T,s2.H,[]⟩ fn.results.toList with
      | some (vs, ob3) => fcP (ob3 ++ ob2) fun ob' => AllP ob' ∧ fcV (resOne vs) fun v => fcL s2.H fun H' => K v H'
      |none=>False)→a2.defers=[]∧ ∃v,(results fn a.tmps).run P w2= .ok v w2∧ ∃ce h1 η1 φ1,KC ce h1∧n≤h1.length∧Pin n η η1∧cRel η1 ce (.returned v)∧Sat η1 φ1 h1 w0 Ef w2:=by
     intro hk1
     split at hk1
     ·rename_i us ob' hres
      simp only[fcP_eq,fcV_eq,fcL_eq]at hk1
      obtain⟨ho,hk1⟩:=hk1
      have ho':AllP ob':=by
       rw[AllP_iff]at ho⊢
       exact fun p hp=>ho p (List.mem_append_left _ hp)
      have hle:=Nam.le_of_pin p3 q1
      obtain⟨u2,hu2,hrun⟩:=run_results (P:=P) (s:=⟨s.T,s2.H,[]⟩) hE q3 (p4.mono hle) hres ho'
      exact⟨hd2,u2,hrun,.ret (resOne us),s2.H,η2,φ2,hKC _ _ hk1,Nat.le_trans p2 q2,p1.trans q1 p2,⟨u2,hu2,rfl⟩,q3⟩
     ·exact hk1.elim
    split at k2'
    ·have qe:e2= .normal:=qe
     subst qe
     exact fin k2'
    ·have qe:e2= .ret:=qe
     subst qe
     exact fin k2'
    ·exact k2'.elim
   ·exact k2'.elim
  ·exact hk.elim
 ·exact hk.elim
def endRM(E:Env)(P:Program)(rs:List ResultVar)(g n k1 k2:Nat)(rest:Code)(K:SV→SHeap→Prop)(x:SV)(s:St)(ob:List Prop):Prop:=
 match s.D with
 | .yld m::D=>match s.H[m]? with
  | some (some (.obj I)) => fcP ob fun ob => AllP ob ∧ (∀ o, I o → o = .deferred (some [])) ∧ fcL (s.H.set m (some .dead)) fun H => endR E P rs g n k1 k2 rest K x ⟨s.T, H, D⟩ []
  |_=>False
 |_=>endR E P rs g n k1 k2 rest K x s ob
def retKRM(E:Env)(P:Program)(rs:List ResultVar)(g n k1 k2:Nat)(rest:Code)(K:SV→SHeap→Prop):KS:=fun se s ob=>match se with
 | .normal=>endRM E P rs g n k1 k2 rest K .inil s ob
 | .ret=>endRM E P rs g n k1 k2 rest K .inil s ob
 | .panic (.iface t v)=>endRM E P rs g n k1 k2 rest K (.iface t v) s ob
 |_=>False
theorem endRM_owed{E:Env}{P:Program}{rs:List ResultVar}{g n k1 k2:Nat}{rest:Code}{K:SV→SHeap→Prop}{x:SV}{s:St}{ob:List Prop}(h:endRM E P rs g n k1 k2 rest K x s ob):AllP ob:=by
 unfold endRM at h;split at h
 ·split at h
  ·rw[fcP_eq]at h;exact h.1
  ·exact h.elim
 ·exact endR_owed h
theorem retKRM_good(E:Env)(P:Program)(rs:List ResultVar)(g n k1 k2:Nat)(rest:Code)(K:SV→SHeap→Prop):Good (retKRM E P rs g n k1 k2 rest K):=by
 intro se s ob h;unfold retKRM at h;split at h
 ·exact endRM_owed h
 ·exact endRM_owed h
 ·exact endRM_owed h
 ·exact h.elim
theorem callDRM{E:Env}{P:Program}(hE:E.ok P){f:Nat}{fn:Func}{c:Code}{args:List SV}{h:SHeap}{K:CE→SHeap→Prop}(hf:P.funcs[f]?=some fn)(hb:fn.body=some c)
  {g k1 k2:Nat} {gf:Func} {rest:Code} (hg:P.funcs[g]?=some gf) (hr:IsRec2 gf k1 k2 rest) (hgE:E.fn g=true)
  (hx:X E P none h.length c ⟨initT args fn.ntmps,h,[]⟩ [] (retKRM E P fn.results.toList g gf.ntmps k1 k2 rest fun v h1=> ∃ce' h2,K ce' h2∧EntC h.length (.ret v) h1 ce' h2)):CallP P f args h K:=by
 refine CallP.ent ?_
 intro η φ w0 Ef w vs hs hd
 have hc:=X_ok hE c _ _ _ (fun se s=> ∃ob,retKRM E P fn.results.toList g gf.ntmps k1 k2 rest (fun v h1=> ∃ce' h2,K ce' h2∧EntC h.length (.ret v) h1 ce' h2) se s ob) (retKRM_good E P fn.results.toList g gf.ntmps k1 k2 rest _) (fun se s ob hk=>⟨ob,hk⟩) hx η η φ w0 Ef w {tmps:=vs.toArray++Array.replicate (fn.ntmps-vs.toArray.size) undef,defers:=[]} (Pin.refl _ _) (Nat.le_refl _) hs (initT_ok hd _) rfl
 refine calls_of_wpQ hf hb (wp_mono (wpIn_wide.1 hc) ?_)
 rintro e a w' ⟨se,s,η',φ',⟨ob,k⟩,p1,p2,pe,p3,p4,p5⟩
 have main: ∀(x:SV) (xv:Value) (u:FrameMode),endRM E P fn.results.toList g gf.ntmps k1 k2 rest (fun v h1=> ∃ce' h2,K ce' h2∧EntC h.length (.ret v) h1 ce' h2) x s ob→den η' x=some xv→
   ((u= .returning∧xv= .nilIface)∨u= .panicking [{v:=xv,recovered:=false}])→
   LeavesQ P fn a.tmps (fun e w'=> ∃ce h1 η1 φ1,(∃ce' h2,K ce' h2∧EntC h.length ce h1 ce' h2)∧h.length≤h1.length∧Pin h.length η η1∧cRel η1 ce e∧Sat η1 φ1 h1 w0 Ef w') a.defers u w':=by
  intro x xv u hk hxv hu
  unfold endRM at hk
  split at hk
  ·rename_i m D hD
   split at hk
   ·rename_i I hm
    rw[fcP_eq,fcL_eq]at hk
    obtain⟨_,hI,hk⟩:=hk
    rw[hD]at p5
    obtain⟨ad,ds',had,hds,hds'⟩:=drel_mark p5
    obtain⟨hw,hs'⟩:=p3.take hm hI had
    rw[hds]
    refine .inr ⟨ad.1,_,_,_,rfl,rfl,by rcases hu with⟨rfl,_⟩|rfl<;>simp,run_takeDeferred hw,?_⟩
    exact(endR_leaves hE hg hr hgE (a:={a with defers:=ds'}) hk (KC:=fun ce h1=> ∃ce' h2,K ce' h2∧EntC h.length ce h1 ce' h2) (fun _ _ hx=>hx) hxv hu p1 (by simpa using p2) hs' p4 hds')
   ·exact hk.elim
  ·exact .inl (endR_leaves hE hg hr hgE hk (KC:=fun ce h1=> ∃ce' h2,K ce' h2∧EntC h.length ce h1 ce' h2) (fun _ _ hx=>hx) hxv hu p1 p2 p3 p4 p5)
 show bodyPostQ P fn _ e a w'
 have k:retKRM E P fn.results.toList g gf.ntmps k1 k2 rest (fun v h1=> ∃ce' h2,K ce' h2∧EntC h.length (.ret v) h1 ce' h2) se s ob:=k
 unfold retKRM at k
 split at k
 ·have pe:e= .normal:=pe
  subst pe
  exact main .inil .nilIface .returning k rfl (.inl ⟨rfl,rfl⟩)
 ·have pe:e= .ret:=pe
  subst pe
  exact main .inil .nilIface .returning k rfl (.inl ⟨rfl,rfl⟩)
 ·rename_i t v _
  obtain⟨u,hu,rfl⟩:=pe
  exact main (.iface t v) u (.panicking [{v:=u,recovered:=false}]) k hu (.inr rfl)
 ·exact k.elim
end Go.Sy
/-
 Contracts: Check. (--fast)
-/
namespace Go.Proofs.YthnhlkflkidemaaGreatDoor
open Go Go.Sy Srv Kuhn
set_option maxRecDepth 100000
set_option maxHeartbeats 4000000
attribute [local irreducible] CallP CodeP Ent YieldP
set_option maxHeartbeats 16000000
def fstB(g:Nat→Int):Nat→Nat→Int×Int×Int
 |0,_=>(0,0,4)
 |r+1,i=>match decide (g i=0)with
  |true=>fstB g r (i+1)
  |false=>((i:Int),g i,0)
noncomputable def SD.chkT(s:SD)(m:Nat)(pl:Nat→Int):Int×Int×Int:=if s.oe (isPl s m pl)=0 then fstB (chkS s s.RM (sbR s s.RM).ord pl) 5 0 else(0,0,s.oe (isPl s m pl))
theorem get5I(g:Nat→Int){i:Nat}(hi:i<5):[g 0,g 1,g 2,g 3,g 4].getD ((i:Nat):Int).toNat 0=g i:=by
 match i,hi with
 |0,_|1,_|2,_|3,_|4,_=>rfl
theorem t18(s:SD)(bp:Bool)(m cp:Nat)(pl:Nat→Int)(hm:m≤9223372036854775807):CallP Tryz.prog 18 [SA s,.osl bp 6 1 m cp] (HSp s m pl) (Ret (.tup [.int .i64 (s.chkT m pl).1,.int .i64 (s.chkT m pl).2.1,.int .i64 (s.chkT m pl).2.2]) (HSp s m pl)):=by
 have c:=o62p s bp m cp pl hm;unfold KO at c;unfold SD.chkT;obtain⟨V,hV⟩: ∃V,isPl s m pl=V:=⟨_,rfl⟩;rw[hV]at c⊢;obtain⟨e,he⟩: ∃e,s.oe V=e:=⟨_,rfl⟩;rw[he]at c⊢;obtain⟨r,hr⟩: ∃r,(if e=0 then fstB (chkS s s.RM (sbR s s.RM).ord pl) 5 0 else((0:Int),(0:Int),e))=r:=⟨_,rfl⟩;rw[hr];refine callDRM (E:=E) E_ok Tryz.func18 rfl (g:=61) (k1:=5) (k2:=2) Tryz.func61 isrec61 rfl ?_;(repeat' first|exact aq|refine aN ?_ ?_|exact tU);all_goals try exact dd
 refine drawP E_ok [7,8] pl18_2 (by kernel_rfl) ?_;(repeat' first|exact aq|refine aN ?_ ?_|exact tU);all_goals try exact dd
 refine(t67 s bp m cp pl).use [0,1,2,3,4,5,6] ?_ (fPp) rfl;(repeat' first|exact aq|refine aN ?_ ?_|exact tU);all_goals try exact dd
 refine CallP.frameH c [0,1,2,3,4,5,6,10,11,12,9] (fPp) rfl ?_;rintro ce h' (⟨h0,rfl,rfl⟩|⟨h0,⟨hv,hVt,ha⟩,hn,rfl,rfl⟩|⟨h0,⟨hv,hVt,ha⟩,hn,co,c1,c2,rfl,rfl⟩)
 ·rw[if_neg h0]at hr;subst hr;refine⟨rfl,?_⟩;(repeat' first|exact aq|refine aN ?_ ?_|exact tU);all_goals try exact dd
  all_goals(repeat' first|exact aq|refine aN ?_ ?_|exact tU)
  all_goals try exact dd
  all_goals intro h1
  all_goals first|exact absurd h1 (by decide)|(cases h1;done)|skip
  all_goals(repeat' first|exact aq|refine aN ?_ ?_|exact tU)
  all_goals try exact dd
  all_goals(repeat' first|exact aq|refine aN ?_ ?_|exact tU)
  all_goals try exact dd
  all_goals intro h2
  all_goals first|exact absurd h2 (by decide)|(cases h2;done)|skip
  all_goals(repeat' first|exact aq|refine aN ?_ ?_|exact tU)
  all_goals try exact dd
  refine⟨_,_,⟨rfl,rfl⟩,?_⟩;exact ent_tau [0,1,2,3,4,5,6] ⟨fPp,tMm,rfl⟩
 ·subst h0;rw[if_pos rfl]at hr;have hok:=hv.okM;obtain⟨hmn,hpl⟩:=isPl_is hv.1.2.1.2 (hV.trans hVt);subst hmn;have r18:=r18n s s.RM _ bp cp hok hn _ (SD.Valid.ordN hn) pl;obtain⟨g,hg⟩: ∃g,chkS s s.RM (sbR s s.RM).ord pl=g:=⟨_,rfl⟩;rw[hg]at r18 hr;refine⟨rfl,?_⟩;(repeat' first|exact aq|refine aN ?_ ?_|exact tU);all_goals try exact dd
  refine(t69o bp s.n cp).use [13,6] ?_ (fPp) rfl;(repeat' first|exact aq|refine aN ?_ ?_|exact tU);all_goals try exact dd
  refine rangeP E_ok rfl rfl ?_;refine r18.use [0,1,2,5,13,0,16,17,6,19,14,15,8] ?_ (fPp) rfl;refine⟨by decide,?_⟩;(repeat' first|exact aq|refine aN ?_ ?_|exact tU);all_goals try exact dd
  refine loopP E_ok [6,36] (fun i:Nat=>[(37,.int .i64 (i:Nat))]) (fun _ H=>H) (fun i=>i≤5∧fstB g (5-i) i=r) (fun i=>5-i) 0 ⟨Nat.zero_le _,hr⟩ ?_ ?_
  ·refine ent_tau [0,1,2,3,4,5,6,7,8,9,10,11,12,13,14,15,16,17,18,19] ⟨?_,tMm,rfl⟩;(repeat' first|exact fp|refine aN ?_ ?_);exact fun o h=>h
  rintro i ⟨hi,hc⟩;refine And.intro ?_ (And.intro (fun hb=>?_) (fun hb=>?_))
  ·(repeat' first|exact aq|refine aN ?_ ?_|exact tU)
  ·have hin:i<5:=by
    have:=of_decide_eq_true hb;omega
   have h5:=get5I g hin;have hr2:5-i=(5-(i+1))+1:=by omega
   rw[hr2,fstB]at hc;obtain⟨B,hB⟩: ∃B,decide (g i=0)=B:=⟨_,rfl⟩;rw[hB]at hc;have hB2:decide ([g 0,g 1,g 2,g 3,g 4].getD ((i:Nat):Int).toNat 0=0)=B:=by
    rw[h5,←hB]
   cases B with
   |true=>
    simp only at hc;all_goals(repeat' first|exact aq|refine aN ?_ ?_|exact tU)
    all_goals try exact dd
    all_goals intro h1
    all_goals first|(exfalso;(try rw[hB2]at h1);exact tFx h1)|(exfalso;(try rw[hB2]at h1);exact fTx h1)|skip
    all_goals(repeat' first|exact aq|refine aN ?_ ?_|exact tU)
    all_goals try exact dd
    refine⟨i+1,⟨hin,hc⟩,by omega,?_⟩;refine ent_tau [0,1,2,3,4,5,6,7,8,9,10,11,12,13,14,15,16,17,18,19] ⟨?_,tMm,rfl⟩;(repeat' first|exact fp|refine aN ?_ ?_);exact fun o h=>h
   |false=>
    simp only at hc;rw[←h5]at hc;subst hc;all_goals(repeat' first|exact aq|refine aN ?_ ?_|exact tU)
    all_goals try exact dd
    all_goals intro h1
    all_goals first|(exfalso;(try rw[hB2]at h1);exact tFx h1)|(exfalso;(try rw[hB2]at h1);exact fTx h1)|skip
    all_goals(repeat' first|exact aq|refine aN ?_ ?_|exact tU)
    all_goals try exact dd
    ·exact fun o h=>h
    all_goals(repeat' first|exact aq|refine aN ?_ ?_|exact tU)
    all_goals try exact dd
    all_goals intro h2
    all_goals first|exact absurd h2 (by decide)|(cases h2;done)|skip
    all_goals(repeat' first|exact aq|refine aN ?_ ?_|exact tU)
    all_goals try exact dd
    refine⟨_,_,⟨rfl,rfl⟩,?_⟩;exact ent_tau [0,1,2,3,4,5,6] ⟨fPp,tMm,rfl⟩
  ·have hin:i=5:=by
    have:=of_decide_eq_false hb;omega
   subst hin;rw[Nat.sub_self,fstB]at hc;subst hc;(repeat' first|exact aq|refine aN ?_ ?_|exact tU);all_goals try exact dd
   ·exact fun o h=>h
   all_goals(repeat' first|exact aq|refine aN ?_ ?_|exact tU)
   all_goals try exact dd
   all_goals intro h2
   all_goals first|exact absurd h2 (by decide)|(cases h2;done)|skip
   all_goals(repeat' first|exact aq|refine aN ?_ ?_|exact tU)
   all_goals try exact dd
   refine⟨_,_,⟨rfl,rfl⟩,?_⟩;exact ent_tau [0,1,2,3,4,5,6] ⟨fPp,tMm,rfl⟩
 ·subst h0;rw[if_pos rfl]at hr;have hok:=hv.okM;obtain⟨hmn,hpl⟩:=isPl_is hv.1.2.1.2 (hV.trans hVt);subst hmn;have r18:=r18 s s.RM (srtF s.fr s.n) true co bp cp hok _ (ordL_ok s s.RM (Or.inr ⟨hn,rfl,c1⟩)) pl hpl;obtain⟨g,hg⟩: ∃g,chkS s s.RM (sbR s s.RM).ord pl=g:=⟨_,rfl⟩;rw[hg]at r18 hr;refine⟨rfl,?_⟩;(repeat' first|exact aq|refine aN ?_ ?_|exact tU);all_goals try exact dd
  refine(t69o bp s.n cp).use [13,6] ?_ (fPp) rfl;(repeat' first|exact aq|refine aN ?_ ?_|exact tU);all_goals try exact dd
  refine rangeP E_ok rfl rfl ?_;refine r18.use [0,1,2,5,13,14,17,18,6,20,15,16,8] ?_ (fPp) rfl;refine⟨by decide,?_⟩;(repeat' first|exact aq|refine aN ?_ ?_|exact tU);all_goals try exact dd
  refine loopP E_ok [6,36] (fun i:Nat=>[(37,.int .i64 (i:Nat))]) (fun _ H=>H) (fun i=>i≤5∧fstB g (5-i) i=r) (fun i=>5-i) 0 ⟨Nat.zero_le _,hr⟩ ?_ ?_
  ·refine ent_tau [0,1,2,3,4,5,6,7,8,9,10,11,12,13,14,15,16,17,18,19,20] ⟨?_,tMm,rfl⟩;(repeat' first|exact fp|refine aN ?_ ?_);exact fun o h=>h
  rintro i ⟨hi,hc⟩;refine And.intro ?_ (And.intro (fun hb=>?_) (fun hb=>?_))
  ·(repeat' first|exact aq|refine aN ?_ ?_|exact tU)
  ·have hin:i<5:=by
    have:=of_decide_eq_true hb;omega
   have h5:=get5I g hin;have hr2:5-i=(5-(i+1))+1:=by omega
   rw[hr2,fstB]at hc;obtain⟨B,hB⟩: ∃B,decide (g i=0)=B:=⟨_,rfl⟩;rw[hB]at hc;have hB2:decide ([g 0,g 1,g 2,g 3,g 4].getD ((i:Nat):Int).toNat 0=0)=B:=by
    rw[h5,←hB]
   cases B with
   |true=>
    simp only at hc;all_goals(repeat' first|exact aq|refine aN ?_ ?_|exact tU)
    all_goals try exact dd
    all_goals intro h1
    all_goals first|(exfalso;(try rw[hB2]at h1);exact tFx h1)|(exfalso;(try rw[hB2]at h1);exact fTx h1)|skip
    all_goals(repeat' first|exact aq|refine aN ?_ ?_|exact tU)
    all_goals try exact dd
    refine⟨i+1,⟨hin,hc⟩,by omega,?_⟩;refine ent_tau [0,1,2,3,4,5,6,7,8,9,10,11,12,13,14,15,16,17,18,19,20] ⟨?_,tMm,rfl⟩;(repeat' first|exact fp|refine aN ?_ ?_);exact fun o h=>h
   |false=>
    simp only at hc;rw[←h5]at hc;subst hc;all_goals(repeat' first|exact aq|refine aN ?_ ?_|exact tU)
    all_goals try exact dd
    all_goals intro h1
    all_goals first|(exfalso;(try rw[hB2]at h1);exact tFx h1)|(exfalso;(try rw[hB2]at h1);exact fTx h1)|skip
    all_goals(repeat' first|exact aq|refine aN ?_ ?_|exact tU)
    all_goals try exact dd
    ·exact fun o h=>h
    all_goals(repeat' first|exact aq|refine aN ?_ ?_|exact tU)
    all_goals try exact dd
    all_goals intro h2
    all_goals first|exact absurd h2 (by decide)|(cases h2;done)|skip
    all_goals(repeat' first|exact aq|refine aN ?_ ?_|exact tU)
    all_goals try exact dd
    refine⟨_,_,⟨rfl,rfl⟩,?_⟩;exact ent_tau [0,1,2,3,4,5,6] ⟨fPp,tMm,rfl⟩
  ·have hin:i=5:=by
    have:=of_decide_eq_false hb;omega
   subst hin;rw[Nat.sub_self,fstB]at hc;subst hc;(repeat' first|exact aq|refine aN ?_ ?_|exact tU);all_goals try exact dd
   ·exact fun o h=>h
   all_goals(repeat' first|exact aq|refine aN ?_ ?_|exact tU)
   all_goals try exact dd
   all_goals intro h2
   all_goals first|exact absurd h2 (by decide)|(cases h2;done)|skip
   all_goals(repeat' first|exact aq|refine aN ?_ ?_|exact tU)
   all_goals try exact dd
   refine⟨_,_,⟨rfl,rfl⟩,?_⟩;exact ent_tau [0,1,2,3,4,5,6] ⟨fPp,tMm,rfl⟩
end Go.Proofs.YthnhlkflkidemaaGreatDoor
