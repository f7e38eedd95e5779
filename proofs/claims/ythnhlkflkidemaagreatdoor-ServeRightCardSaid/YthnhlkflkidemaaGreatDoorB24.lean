/-
  Parts: TiB11, V20, HoH9, HoH10, S1.
-/
import Derived.Test.YthnhlkflkidemaaGreatDoorB23
import Derived.Test.YthnhlkflkidemaaGreatDoorB21
import Derived.Test.YthnhlkflkidemaaGreatDoorB20
set_option linter.unusedVariables false
set_option linter.unusedSimpArgs false
/-
 Contract: tide.Served.
-/
namespace Go.Proofs.YthnhlkflkidemaaGreatDoor
open Go Go.Sy
set_option maxRecDepth 100000
set_option maxHeartbeats 4000000
attribute [local irreducible] CallP CodeP Ent YieldP
theorem u45(t:TD)(p l m:Int)(hv:t.Valid):CallP Tryz.prog 191 [.ptr 0 0,.ptr 5 0,.ptr 6 0,.ptr 7 0] (t.shore++[some (.roc [.int .i64 p]),some (.roc [.int .i64 l]),some (.roc [.int .i64 m])])
  (Ret (.bool ((inB p 0 (t.nS-1)&&inB l 0 60)&&inB m 0 60)) (t.shore++[some (.roc [.int .i64 p]),some (.roc [.int .i64 l]),some (.roc [.int .i64 m])])):=by
 have hS:=hv.2.1;have fin: ∀(b:Bool) (h1:SHeap),b=((inB p 0 (t.nS-1)&&inB l 0 60)&&inB m 0 60)→Fits (sel [0,1,2,3,4,5,6,7] h1.length) h1 [0,1,2,3,4,5,6,7] (t.shore++[some (.roc [.int .i64 p]),some (.roc [.int .i64 l]),some (.roc [.int .i64 m])])→
   Ent (t.shore++[some (SObj.roc [.int .i64 p]),some (SObj.roc [.int .i64 l]),some (SObj.roc [.int .i64 m])]).length ⟨[some (none,.bool b)],h1,[]⟩ ⟨[some (none,.bool ((inB p 0 (t.nS-1)&&inB l 0 60)&&inB m 0 60))],(t.shore++[some (.roc [.int .i64 p]),some (.roc [.int .i64 l]),some (.roc [.int .i64 m])]),[]⟩:=by
  intro b h1 hb hf;subst hb;exact ent_of [0,1,2,3,4,5,6,7] hf ⟨rfl,rfl,trivial⟩ rfl rfl rfl
 refine callR (E:=E) E_ok Tryz.func191 rfl ?_;refine aN ?_ ?_
 ·exact sA
 refine(u46 t (by omega) p).use [0,1,2,3,4] ?_ (qZ0) rfl;refine And.intro ?_ (And.intro (fun hc=>?_) (fun hc=>?_))
 ·exact sA
 ·have hc':inB p 0 (t.nS-1)=true:=by simpa[gB,wB]using hc
  refine(u47 l).use [] ?_ (qZ0) rfl;refine And.intro ?_ (And.intro (fun hd=>?_) (fun hd=>?_))
  ·exact sA
  ·have hd':inB l 0 60=true:=by simpa[gB,wB,hc']using hd
   refine(u47 m).use [] ?_ (qZ0) rfl;refine aN ?_ ?_
   ·exact sA
   refine fin _ _ ?_ (qZ0);rw[hc',hd'];rfl
  ·have hd':inB l 0 60=false:=by simpa[gB,wB,hc']using hd
   refine aN ?_ ?_
   ·simp[AllP,under,gB,wB,inR_iff,IntKind.bits];try simp[hc',hd']
   refine fin _ _ ?_ (qZ0);rw[hc',hd'];rfl
 ·have hc':inB p 0 (t.nS-1)=false:=by simpa[gB,wB]using hc
  refine And.intro ?_ (And.intro (fun hd=>?_) (fun hd=>?_))
  ·simp[AllP,under,gB,wB,inR_iff,IntKind.bits];try exact hc'
  ·simp[gB,wB,hc']at hd
  ·refine aN ?_ ?_
   ·simp[AllP,under,gB,wB,inR_iff,IntKind.bits];try simp[hc']
   refine fin _ _ ?_ (qZ0);rw[hc'];rfl
def prow(o:List (Int×Int))(k:Nat):List SV:=[.int .i64 (o.getD k (0,0)).1,.int .i64 (o.getD k (0,0)).2]
def stepS(good:Bool)(o:List (Int×Int))(m:Int):List (Int×Int):=
 if good=false then o else if 0<o.length∧(o.getD (o.length-1) (0,0)).2+1=m then o.set (o.length-1) ((o.getD (o.length-1) (0,0)).1,(o.getD (o.length-1) (0,0)).2+1)else o++[(m,m)]
def servF(good:Int→Bool):Nat→Int→List (Int×Int)→List (Int×Int)
 |0,_,o=>o
 |c+1,m,o=>servF good c (m+1) (stepS (good m) o m)
def goodM(t:TD)(p:Nat)(l h:Int)(m:Int):Bool:=decide (l≤hulLo (a98 t m p) t.all t.all.length)&&decide (hulHi (b98 t m p) t.all t.all.length≤h)
open Classical in
noncomputable def TD.servedT(t:TD)(p l h:Int):ToldT (List (Int×Int)):=
 if¬t.Valid then⟨[],1⟩else if¬(t.isPl p∧(0≤l∧l≤60)∧(0≤h∧h≤60))then⟨[],2⟩else if t.all=[]then⟨[],10⟩else⟨servF (goodM t p.toNat l h) (t.mi (t.nM-1)-t.mi 0+1).toNat (t.mi 0) [],0⟩
theorem getD_set(o:List (Int×Int))(j i:Nat)(v:Int×Int)(hj:j<o.length):(o.set j v).getD i (0,0)=if i=j then v else o.getD i (0,0):=by
 rw[List.getD_eq_getElem?_getD,List.getElem?_set];by_cases h:j=i
 ·subst h;simp[hj]
 ·rw[if_neg h,if_neg (fun e=>h e.symm),List.getD_eq_getElem?_getD]
theorem prow_set(o:List (Int×Int))(j i:Nat)(v:Int)(hj:j<o.length):selL (decide (i=j)) (splice (prow o j) 1 [.int .i64 v]) (prow o i)=prow (o.set j ((o.getD j (0,0)).1,v)) i:=by
 unfold prow;rw[getD_set o j i _ hj];by_cases h:i=j
 ·subst h;simp[selL,selV,splice]
 ·simp[selL,selV,splice,h]
theorem getD_appT(o:List (Int×Int))(i:Nat)(v:Int×Int):(o++[v]).getD i (0,0)=if i<o.length then o.getD i (0,0)else if i=o.length then v else(0,0):=by
 rw[List.getD_eq_getElem?_getD,List.getElem?_append];split
 ·rw[List.getD_eq_getElem?_getD]
 ·split
  ·rename_i h;subst h;simp
  ·rename_i h1 h2;rw[List.getElem?_eq_none (by simp;omega)];rfl
theorem first_last{t:TD}(hv:t.Valid):t.mi 0≤t.mi (t.nM-1):=by
 have hM:=hv.1;have h1:=hv.step (i:=1) (by omega) (by omega);simp only[Nat.sub_self]at h1;have:t.nM=2∨t.nM=3∨t.nM=4:=by omega
 rcases this with e|e|e<;>rw[e]
 ·show t.mi 0≤t.mi 1;omega
 ·have h2:=hv.step (i:=2) (by omega) (by omega);show t.mi 0≤t.mi 2;simp at h2;omega
 ·have h2:=hv.step (i:=2) (by omega) (by omega);have h3:=hv.step (i:=3) (by omega) (by omega);show t.mi 0≤t.mi 3;simp at h2 h3;omega
noncomputable def KSp(t:TD)(r:ToldT (List (Int×Int))):CE→SHeap→Prop:=fun ce h'=>
 (r.v=[]∧ce= .ret (.tup [.snil,.int .i64 r.e])∧h'=t.HG)∨(0<r.v.length∧ ∃cap,r.v.length≤cap∧cap≤9223372036854775807∧ce= .ret (.tup [.slice 5 2 0 r.v.length cap,.int .i64 r.e])∧h'=t.HG++[some (.arr 2 r.v.length cap (prow r.v))])
theorem u15(t:TD)(p l h:Int):CallP Tryz.prog 136 [t.A,.int .i64 p,.int .i64 l,.int .i64 h] t.HG (KSp t (t.servedT p l h)):=by
 refine callD (E:=E) E_ok Tryz.func136 rfl Tryz.func190 ⟨_,_,_,_,_,_,_,_,rfl,rfl,rfl⟩ rfl rfl ?_
 refine aN ?_ ?_
 ·exact sA
 refine CallP.frame (u44_3 t p l h 191 (.inl rfl) _ (u45 t p l h)) [0,1,2,6,7,8] (qZ0) (apartB_ok rfl) rfl ?_
 rintro ce h' (⟨hv,hb,rfl,rfl⟩|⟨hv,rfl,rfl⟩|⟨hv,hb,rfl,rfl⟩)
 ·refine⟨ownB_ok rfl,?_⟩
  rw[Bool.and_eq_true,Bool.and_eq_true]at hb
  have hpm:t.isPl p∧(0≤l∧l≤60)∧(0≤h∧h≤60):=⟨inB_iff.1 hb.1.1,inB_iff.1 hb.1.2,inB_iff.1 hb.2⟩
  have hM:=hv.1
  refine aN ?_ ?_
  ·exact sA
  refine CallP.frame (u48 t hv) [10,0,1,2,11,3] (qZ0) (apartB_ok rfl) rfl ?_
  rintro ce h' (⟨h0,rfl,rfl⟩|⟨h0,cap,hc1,hc2,rfl,rfl⟩)
  ·refine⟨ownB_ok rfl,?_⟩
   have e0:t.servedT p l h=⟨[],10⟩:=by simp[TD.servedT,hv,hpm,h0]
   refine aN ?_ ?_
   ·exact sA
   refine(u43_stop 0 10).use [9] ?_ (qZ0) rfl
   refine And.intro ?_ ⟨_,_,.inl ⟨by rw[e0],by rw[e0],rfl⟩,?_⟩
   ·exact sA
   exact ent_tau [0,1,2,3,4] ⟨qZ0,qZ1,rfl⟩
  ·refine⟨ownB_ok rfl,?_⟩
   have hne: ¬t.all=[]:=fun h=>by rw[h]at h0;simp at h0
   have e0:t.servedT p l h=⟨servF (goodM t p.toNat l h) (t.mi (t.nM-1)-t.mi 0+1).toNat (t.mi 0) [],0⟩:=by simp[TD.servedT,hv,hpm,hne]
   have hlen:=all_len hv
   obtain⟨q,hq⟩:=Int.eq_ofNat_of_zero_le hpm.1.1
   subst hq
   have hq2:=hpm.1.2
   rw[Int.toNat_natCast]at e0
   have hlast:=(hv.marks (i:=t.nM-1) (by omega)).1
   have hfirst:=(hv.marks (i:=0) (by omega)).1
   have hfl:=first_last hv
   refine aN ?_ ?_
   ·simp[AllP,under,gB,wB,inR_iff,IntKind.bits]
    omega
   refine loopP E_ok [5,6,7,9,10,11] (fun g:Bool×Nat×List (Int×Int)×Nat=>[(12,match g.1 with|false=> .snil|true=> .slice 13 2 0 g.2.2.1.length g.2.2.2),(13,.int .i64 (t.mi 0+g.2.1))])
    (fun g H=>match g.1 with|false=>H|true=>H++[some (.arr 2 g.2.2.1.length g.2.2.2 (prow g.2.2.1))])
    (fun g=>t.mi 0+g.2.1≤t.mi (t.nM-1)+1∧g.1=decide (0<g.2.2.1.length)∧g.2.2.1.length≤g.2.1∧(g.1=true→g.2.2.1.length≤g.2.2.2∧g.2.2.2≤9223372036854775807)∧(∀i,i<g.2.2.1.length→0≤(g.2.2.1.getD i (0,0)).2∧(g.2.2.1.getD i (0,0)).2<t.mi 0+g.2.1)∧
     servF (goodM t q l h) (t.mi (t.nM-1)-t.mi 0+1).toNat (t.mi 0) []=servF (goodM t q l h) (t.mi (t.nM-1)-t.mi 0+1-g.2.1).toNat (t.mi 0+g.2.1) g.2.2.1)
    (fun g=>(t.mi (t.nM-1)+1-t.mi 0-g.2.1).toNat) (false,0,[],0) ⟨by simp;omega,by simp,by simp,by simp,by simp,by simp⟩ ?_ ?_
   ·refine ent_tau [0,1,2,3,4,5,6,7,8,9,10,11,12] ⟨qZ0,?_,rfl⟩
    (repeat' (first|exact tU|exact rfl|exact congrArg (SV.int .i64) (Int.natCast_succ _).symm|refine aN ?_ ?_))
    exact congrArg (SV.int .i64) (by simp)
   ·rintro⟨b,k,o,cp⟩ ⟨hk,hbo,hok,hcap,hval,hF⟩
    simp only at hk hbo hok hcap hval hF
    cases b with
    |false=>
     have ho:o=[]:=by
      have: ¬0<o.length:=by simpa using hbo
      exact List.eq_nil_of_length_eq_zero (by omega)
     subst ho
     refine aN ?_ ?_
     ·exact sA
     refine(u49 t (by omega) (by omega)).use [10,0,1,2,11] ?_ (qZ0) rfl
     refine And.intro ?_ (And.intro (fun hn=>?_) (fun hn=>?_))
     ·exact sA
     ·have hn':t.mi 0+k≤t.mi (t.nM-1):=by simpa using hn
      refine aN ?_ ?_
      ·exact sA
      refine(u50 t hv t.all (all_full hv) (by omega) cap q (t.mi 0+k) ⟨by omega,hn'⟩ (by omega)).use [10,0,1,2,11,3,12,4] ?_ (qZ0) rfl
      have ec:(t.mi (t.nM-1)-t.mi 0+1-k).toNat=(t.mi (t.nM-1)-t.mi 0+1-((k+1:Nat):Int)).toNat+1:=by omega
      refine And.intro ?_ (And.intro (fun hc=>?_) (fun hc=>?_))
      ·simp[AllP,under,gB,wB]
      ·have hgd:goodM t q l h (t.mi 0+k)=false:=by
        simp[goodM]
        simp at hc
        omega
       refine And.intro ?_ ⟨(false,k+1,[],cp),⟨by simp;omega,by simp,by simp,by simp,by simp,?_⟩,by simp;omega,?_⟩
       ·simp[AllP,under,gB,wB,inR_iff,IntKind.bits]
        omega
       ·show _=servF (goodM t q l h) (t.mi (t.nM-1)-t.mi 0+1-((k+1:Nat):Int)).toNat (t.mi 0+((k+1:Nat):Int)) []
        rw[hF,ec,servF,hgd]
        simp only[stepS,if_true]
        congr 1
        push_cast
        omega
       ·refine ent_tau [0,1,2,3,4,5,6,7,8,9,10,11,12] ⟨qZ0,?_,rfl⟩
        (repeat' (first|exact tU|exact rfl|exact congrArg (SV.int .i64) (Int.natCast_succ _).symm|refine aN ?_ ?_))
        exact congrArg (SV.int .i64) (by push_cast;omega)
      ·have hgd:goodM t q l h (t.mi 0+k)=true:=by
        simp[goodM]
        simp at hc
        omega
       refine aN ?_ ?_
       ·exact sA
       refine And.intro (fun hd=>?_) (fun hd=>?_)
       ·simp at hd
       ·refine aN ?_ ?_
        ·exact⟨by decide,by decide,by decide,trivial⟩
        intro c' hc1' hc2'
        refine And.intro ?_ ⟨(true,k+1,[(t.mi 0+k,t.mi 0+k)],c'),⟨by show t.mi 0+((k+1:Nat):Int)≤_;omega,by simp,by simp,fun _=>⟨by simpa using hc1',hc2'⟩,?_,?_⟩,by show(t.mi (t.nM-1)+1-t.mi 0-((k+1:Nat):Int)).toNat<(t.mi (t.nM-1)+1-t.mi 0-(k:Int)).toNat;omega,?_⟩
        ·simp[AllP,under,gB,wB,inR_iff,IntKind.bits]
         omega
        ·intro i hi
         have hi0:i=0:=by simpa using hi
         subst hi0
         show 0≤t.mi 0+(k:Int)∧t.mi 0+(k:Int)<t.mi 0+((k+1:Nat):Int)
         omega
        ·show _=servF (goodM t q l h) (t.mi (t.nM-1)-t.mi 0+1-((k+1:Nat):Int)).toNat (t.mi 0+((k+1:Nat):Int)) [(t.mi 0+k,t.mi 0+k)]
         rw[hF,ec,servF,hgd]
         simp only[stepS,List.length_nil,List.nil_append]
         rw[if_neg (by simp),if_neg (by simp)]
         congr 1
         push_cast
         omega
        ·refine ent_tau [0,1,2,3,4,5,6,7,8,9,10,11,12,15] ⟨?_,?_,rfl⟩
         ·(repeat' (first|exact tU|exact rfl|exact fun _ _=>rfl|exact Or.inl rfl|refine aN ?_ ?_))
          intro i hi
          have hi0:i=0:=Nat.lt_one_iff.1 hi
          subst hi0
          rfl
         ·(repeat' (first|exact tU|exact rfl|exact congrArg (SV.int .i64) (Int.natCast_succ _).symm|refine aN ?_ ?_))
          exact congrArg (SV.int .i64) (by show t.mi 0+(k:Int)+1=t.mi 0+((k+1:Nat):Int);omega)
     ·have hn': ¬(t.mi 0+k≤t.mi (t.nM-1)):=by simpa using hn
      have ec:(t.mi (t.nM-1)-t.mi 0+1-k).toNat=0:=by omega
      rw[ec,servF]at hF
      refine aN ?_ ?_
      ·exact sA
      refine And.intro trivial ?_
      refine(u43_nil 0).use [9] ?_ (qZ0) rfl
      refine And.intro ?_ ⟨_,_,.inl ⟨by rw[e0,hF],rfl,rfl⟩,?_⟩
      ·exact sA
      rw[e0]
      exact ent_tau [0,1,2,3,4] ⟨qZ0,qZ1,rfl⟩
    |true=>
     have ho:0<o.length:=by simpa using hbo
     obtain⟨hcp1,hcp2⟩:=hcap rfl
     have hol:=hval (o.length-1) (by omega)
     refine aN ?_ ?_
     ·exact sA
     refine(u49 t (by omega) (by omega)).use [10,0,1,2,11] ?_ (qZ0) rfl
     refine And.intro ?_ (And.intro (fun hn=>?_) (fun hn=>?_))
     ·exact sA
     ·have hn':t.mi 0+k≤t.mi (t.nM-1):=by simpa using hn
      refine aN ?_ ?_
      ·exact sA
      refine(u50 t hv t.all (all_full hv) (by omega) cap q (t.mi 0+k) ⟨by omega,hn'⟩ (by omega)).use [10,0,1,2,11,3,12,4] ?_ (qZ0) rfl
      have ec:(t.mi (t.nM-1)-t.mi 0+1-k).toNat=(t.mi (t.nM-1)-t.mi 0+1-((k+1:Nat):Int)).toNat+1:=by omega
      refine And.intro ?_ (And.intro (fun hc=>?_) (fun hc=>?_))
      ·simp[AllP,under,gB,wB]
      ·have hgd:goodM t q l h (t.mi 0+k)=false:=by
        simp[goodM]
        simp at hc
        omega
       refine And.intro ?_ ⟨(true,k+1,o,cp),⟨by show t.mi 0+((k+1:Nat):Int)≤_;omega,hbo,by show o.length≤k+1;omega,hcap,?_,?_⟩,by show(t.mi (t.nM-1)+1-t.mi 0-((k+1:Nat):Int)).toNat<(t.mi (t.nM-1)+1-t.mi 0-(k:Int)).toNat;omega,?_⟩
       ·simp[AllP,under,gB,wB,inR_iff,IntKind.bits]
        omega
       ·intro i hi
        have:=hval i hi
        show 0≤(o.getD i (0,0)).2∧(o.getD i (0,0)).2<t.mi 0+((k+1:Nat):Int)
        omega
       ·show _=servF (goodM t q l h) (t.mi (t.nM-1)-t.mi 0+1-((k+1:Nat):Int)).toNat (t.mi 0+((k+1:Nat):Int)) o
        rw[hF,ec,servF,hgd]
        simp only[stepS,if_true]
        congr 1
        push_cast
        omega
       ·refine ent_tau [0,1,2,3,4,5,6,7,8,9,10,11,12,13] ⟨qZ0,?_,rfl⟩
        (repeat' (first|exact tU|exact rfl|exact congrArg (SV.int .i64) (Int.natCast_succ _).symm|refine aN ?_ ?_))
        exact congrArg (SV.int .i64) (by push_cast;omega)
      ·have hgd:goodM t q l h (t.mi 0+k)=true:=by
        simp[goodM]
        simp at hc
        omega
       have hol2:0≤(o[o.length-1]?.getD (0,0)).2∧(o[o.length-1]?.getD (0,0)).2<t.mi 0+k:=by simpa only[List.getD_eq_getElem?_getD]using hol
       have ei:(0+((o.length:Int)-1).toNat)=o.length-1:=by omega
       refine aN ?_ ?_
       ·simp[AllP,under,gB,wB,inR_iff,IntKind.bits]
        exact⟨fun _=>⟨by omega,by omega⟩,fun _=>by omega,fun _=>by omega,by omega,by omega⟩
       refine And.intro (fun hd=>?_) (fun hd=>?_)
       ·have hd':(o.getD (o.length-1) (0,0)).2+1=t.mi 0+k:=by
         have hge:((o.length:Int)-1≥0):=by omega
         simp only[prow,ei,hge,decide_true]at hd
         simpa using hd
        refine aN ?_ ?_
        ·refine⟨?_,?_,?_,?_,?_,?_,?_,?_,trivial⟩
         ·show-9223372036854775808≤t.mi 0+(k:Int)+1∧t.mi 0+(k:Int)+1≤9223372036854775807
          omega
         ·show 0+((o.length:Int)-1).toNat<o.length
          omega
         ·show 0≤(o.length:Int)-1
          omega
         ·show(o.length:Int)-1<(o.length:Int)
          omega
         ·show-9223372036854775808≤(o.getD (0+((o.length:Int)-1).toNat) (0,0)).2+1∧(o.getD (0+((o.length:Int)-1).toNat) (0,0)).2+1≤9223372036854775807
          rw[ei]
          omega
         ·show 0+((o.length:Int)-1).toNat<o.length
          omega
         ·show 0≤(o.length:Int)-1
          omega
         ·show(o.length:Int)-1<(o.length:Int)
          omega
        have hst:stepS true o (t.mi 0+k)=o.set (o.length-1) ((o.getD (o.length-1) (0,0)).1,(o.getD (o.length-1) (0,0)).2+1):=by
         simp only[stepS]
         rw[if_neg (by simp),if_pos ⟨ho,hd'⟩]
        refine⟨(true,k+1,stepS true o (t.mi 0+k),cp),⟨by show t.mi 0+((k+1:Nat):Int)≤_;omega,?_,?_,?_,?_,?_⟩,by show(t.mi (t.nM-1)+1-t.mi 0-((k+1:Nat):Int)).toNat<(t.mi (t.nM-1)+1-t.mi 0-(k:Int)).toNat;omega,?_⟩
        ·show true=decide (0<(stepS true o (t.mi 0+k)).length)
         rw[hst,List.length_set]
         simpa using ho
        ·show(stepS true o (t.mi 0+k)).length≤k+1
         rw[hst,List.length_set]
         omega
        ·intro _
         show(stepS true o (t.mi 0+k)).length≤cp∧cp≤9223372036854775807
         rw[hst,List.length_set]
         exact⟨hcp1,hcp2⟩
        ·intro i hi
         show 0≤((stepS true o (t.mi 0+k)).getD i (0,0)).2∧((stepS true o (t.mi 0+k)).getD i (0,0)).2<t.mi 0+((k+1:Nat):Int)
         have hi':i<(stepS true o (t.mi 0+k)).length:=hi
         rw[hst,List.length_set]at hi'
         rw[hst,getD_set o _ _ _ (by omega)]
         have:=hval i hi'
         split
         ·show 0≤(o.getD (o.length-1) (0,0)).2+1∧(o.getD (o.length-1) (0,0)).2+1<t.mi 0+((k+1:Nat):Int)
          omega
         ·omega
        ·show _=servF (goodM t q l h) (t.mi (t.nM-1)-t.mi 0+1-((k+1:Nat):Int)).toNat (t.mi 0+((k+1:Nat):Int)) (stepS true o (t.mi 0+k))
         rw[hF,ec,servF,hgd]
         congr 1
         push_cast
         omega
        ·have hlen2:o.length=(stepS true o (t.mi 0+k)).length:=by rw[hst,List.length_set]
         refine ent_tau [0,1,2,3,4,5,6,7,8,9,10,11,12,13] ⟨?_,?_,rfl⟩
         ·(repeat' (first|exact tU|exact rfl|exact fun _ _=>rfl|exact Or.inl rfl|refine aN ?_ ?_))
          ·exact hlen2
          ·intro i hi
           show selL (decide (i=0+((o.length:Int)-1).toNat)) (splice (prow o (0+((o.length:Int)-1).toNat)) 1 [.int .i64 ((o.getD (0+((o.length:Int)-1).toNat) (0,0)).2+1)]) (prow o i)=prow (stepS true o (t.mi 0+k)) i
           rw[ei,hst]
           exact prow_set o _ i _ (by omega)
         ·(repeat' (first|exact tU|exact rfl|exact congrArg (SV.int .i64) (Int.natCast_succ _).symm|refine aN ?_ ?_))
          ·show SV.slice 13 2 0 o.length cp=SV.slice 13 2 0 (stepS true o (t.mi 0+k)).length cp
           rw[←hlen2]
          ·exact congrArg (SV.int .i64) (by show t.mi 0+(k:Int)+1=t.mi 0+((k+1:Nat):Int);omega)
       ·have hd': ¬((o.getD (o.length-1) (0,0)).2+1=t.mi 0+k):=by
         have hge:((o.length:Int)-1≥0):=by omega
         simp only[prow,ei,hge,decide_true]at hd
         simpa using hd
        have hst:stepS true o (t.mi 0+k)=o++[(t.mi 0+(k:Int),t.mi 0+(k:Int))]:=by
         simp only[stepS]
         rw[if_neg (by simp),if_neg (fun e=>hd' e.2)]
        refine aN ?_ ?_
        ·refine⟨Nat.le_refl _,Nat.le_refl _,by decide,?_,?_,hcp2,trivial⟩
         ·show(o.length+1)*16≤140737488355328
          omega
         ·intro i hi
          have hi0:i=0:=Nat.lt_one_iff.1 hi
          subst hi0
          rfl
        intro c' hc1' hc2'
        have hc1'':o.length+1≤c':=hc1'
        have hlen2:o.length+1=(stepS true o (t.mi 0+k)).length:=by rw[hst,List.length_append];rfl
        refine And.intro ?_ ⟨(true,k+1,stepS true o (t.mi 0+k),c'),⟨by show t.mi 0+((k+1:Nat):Int)≤_;omega,?_,?_,?_,?_,?_⟩,by show(t.mi (t.nM-1)+1-t.mi 0-((k+1:Nat):Int)).toNat<(t.mi (t.nM-1)+1-t.mi 0-(k:Int)).toNat;omega,?_⟩
        ·simp[AllP,under,gB,wB,inR_iff,IntKind.bits]
         omega
        ·show true=decide (0<(stepS true o (t.mi 0+k)).length)
         rw[←hlen2]
         simp
        ·show(stepS true o (t.mi 0+k)).length≤k+1
         rw[←hlen2]
         omega
        ·intro _
         show(stepS true o (t.mi 0+k)).length≤c'∧c'≤9223372036854775807
         rw[←hlen2]
         exact⟨hc1'',hc2'⟩
        ·intro i hi
         show 0≤((stepS true o (t.mi 0+k)).getD i (0,0)).2∧((stepS true o (t.mi 0+k)).getD i (0,0)).2<t.mi 0+((k+1:Nat):Int)
         have hi':i<(stepS true o (t.mi 0+k)).length:=hi
         rw[←hlen2]at hi'
         rw[hst,getD_appT]
         split
         ·rename_i h4
          have:=hval i h4
          omega
         ·rw[if_pos (by omega)]
          show 0≤t.mi 0+(k:Int)∧t.mi 0+(k:Int)<t.mi 0+((k+1:Nat):Int)
          omega
        ·show _=servF (goodM t q l h) (t.mi (t.nM-1)-t.mi 0+1-((k+1:Nat):Int)).toNat (t.mi 0+((k+1:Nat):Int)) (stepS true o (t.mi 0+k))
         rw[hF,ec,servF,hgd]
         congr 1
         push_cast
         omega
        ·refine ent_tau [0,1,2,3,4,5,6,7,8,9,10,11,12,16] ⟨?_,?_,rfl⟩
         ·(repeat' (first|exact tU|exact rfl|exact fun _ _=>rfl|exact Or.inl rfl|refine aN ?_ ?_))
          ·exact hlen2
          ·intro i hi
           have hi2:i<o.length+1:=hi
           rcases Nat.lt_or_ge i o.length with h4|h4
           ·refine Eq.trans (b:=prow o i) ?_ ?_
            ·show selL (decide (i<o.length)) (prow o i) _=prow o i
             rw[decide_eq_true h4,selL_true]
            ·show prow o i=prow (stepS true o (t.mi 0+k)) i
             unfold prow
             rw[hst,getD_appT,if_pos h4]
           ·have h5:i=o.length:=by omega
            subst h5
            refine Eq.trans (b:=[SV.int .i64 (t.mi 0+k),SV.int .i64 (t.mi 0+k)]) ?_ ?_
            ·show selL (decide (o.length<o.length)) (prow o o.length) (getOf 2 [SV.int .i64 (t.mi 0+k),SV.int .i64 (t.mi 0+k)] (0+(o.length-o.length)))=_
             rw[decide_eq_false (by omega),selL_false,Nat.sub_self]
             rfl
            ·show _=prow (stepS true o (t.mi 0+k)) o.length
             unfold prow
             rw[hst,getD_appT,if_neg (by omega),if_pos rfl]
         ·(repeat' (first|exact tU|exact rfl|exact congrArg (SV.int .i64) (Int.natCast_succ _).symm|refine aN ?_ ?_))
          ·show SV.slice 16 2 0 (o.length+1) c'=SV.slice 16 2 0 (stepS true o (t.mi 0+k)).length c'
           rw[←hlen2]
          ·exact congrArg (SV.int .i64) (by show t.mi 0+(k:Int)+1=t.mi 0+((k+1:Nat):Int);omega)
     ·have hn': ¬(t.mi 0+k≤t.mi (t.nM-1)):=by simpa using hn
      have ec:(t.mi (t.nM-1)-t.mi 0+1-k).toNat=0:=by omega
      rw[ec,servF]at hF
      refine aN ?_ ?_
      ·exact sA
      refine And.intro trivial ?_
      refine(u43_nil 0).use [9] ?_ (qZ0) rfl
      have e1:t.servedT q l h=⟨o,0⟩:=by rw[e0,hF]
      refine And.intro ?_ ⟨_,_,.inr ⟨by rw[e1];exact ho,cp,by rw[e1];exact hcp1,hcp2,rfl,rfl⟩,?_⟩
      ·exact sA
      rw[e1]
      exact ent_tau [0,1,2,3,4,13] ⟨qZ0,qZ1,rfl⟩
 ·refine⟨ownB_ok rfl,?_⟩
  have e0:t.servedT p l h=⟨[],1⟩:=by simp[TD.servedT,hv]
  refine aN ?_ ?_
  ·exact sA
  refine(u43_stop 0 1).use [9] ?_ (qZ0) rfl
  refine And.intro ?_ ⟨_,_,.inl ⟨by rw[e0],by rw[e0],rfl⟩,?_⟩
  ·exact sA
  exact ent_tau [0,1,2,3,4] ⟨qZ0,qZ1,rfl⟩
 ·refine⟨ownB_ok rfl,?_⟩
  have hpm: ¬(t.isPl p∧(0≤l∧l≤60)∧(0≤h∧h≤60)):=fun h=>by rw[inB_iff.2 h.1,inB_iff.2 h.2.1,inB_iff.2 h.2.2]at hb;cases hb
  have e0:t.servedT p l h=⟨[],2⟩:=by simp[TD.servedT,hv,hpm]
  refine aN ?_ ?_
  ·exact sA
  refine(u43_stop 0 2).use [9] ?_ (qZ0) rfl
  refine And.intro ?_ ⟨_,_,.inl ⟨by rw[e0],by rw[e0],rfl⟩,?_⟩
  ·exact sA
  exact ent_tau [0,1,2,3,4] ⟨qZ0,qZ1,rfl⟩
def bxv(h f t l m:Int):List SV:=[.int .i64 h,.int .i64 f,.int .i64 t,.int .i64 l,.int .i64 m]
theorem t138(a c h f t l m:Int)(ht: -1000≤t∧t≤1000):CallP Tryz.prog 138 [.agg [.int .i64 a,.int .i64 c],.ptr 0 0] [some (.roc (bxv h f t l m))] (Ret (.bool (decide (a≤f)&&decide (t-1≤c))) [some (.roc (bxv h f t l m))]):=by
 obtain⟨g,hg⟩: ∃g,decide (a≤f)=g:=⟨_,rfl⟩;refine callR (E:=E) E_ok Tryz.func138 rfl ?_;(repeat' first|exact aq|refine aN ?_ ?_|exact tU);all_goals try exact dd
 refine ent_tau [0] ⟨fPp,⟨rfl,congrArg SV.bool ?_,trivial⟩,rfl⟩;cases decide (a≤f)<;>rfl
def ixS(p:Nat→Bool):Nat→Nat→Int
 |0,_=> -1
 |r+1,i=>match p i with
  |true=>(i:Int)
  |false=>ixS p r (i+1)
theorem ixS_any(p:Nat→Bool): ∀r i,decide (ixS p r i≥0)=(List.range r).any fun k=>p (i+k)
 |0,i=>rfl
 |r+1,i=>by
  rw[ixS];cases hp:p i with
  |true=>
   rw[Bool.eq_iff_iff];simp only[decide_eq_true_iff,List.any_eq_true];exact⟨fun _=>⟨0,List.mem_range.2 (by omega),hp⟩,fun _=>by omega⟩
  |false=>
   simp only;rw[ixS_any p r (i+1),Bool.eq_iff_iff,List.any_eq_true,List.any_eq_true];constructor
   ·rintro⟨k,h1,h2⟩;exact⟨k+1,List.mem_range.2 (by have:=List.mem_range.1 h1;omega),by rw[show i+(k+1)=i+1+k by omega];exact h2⟩
   ·rintro⟨k,h1,h2⟩;cases k with
    |zero=>
     rw[Nat.add_zero,hp]at h2;exact Bool.noConfusion h2
    |succ k=>exact⟨k,List.mem_range.2 (by have:=List.mem_range.1 h1;omega),by rw[show i+1+k=i+(k+1)by omega];exact h2⟩
def inS(L:List (Int×Int))(f t:Int)(k:Nat):Bool:=decide ((L.getD k (0,0)).1≤f)&&decide (t-1≤(L.getD k (0,0)).2)
theorem t193(L:List (Int×Int))(cap:Nat)(hn:L.length≤9223372036854775807)(h f t l m:Int)(ht: -1000≤t∧t≤1000):CallP Tryz.prog 193 [.slice 0 2 0 L.length cap,.fn (.func 138) [] [.ptr 1 0]] [some (.roa 2 L.length (prow L)),some (.roc (bxv h f t l m))]
  (Ret (.int .i64 (ixS (inS L f t) L.length 0)) [some (.roa 2 L.length (prow L)),some (.roc (bxv h f t l m))]):=by
 obtain⟨V,hV⟩: ∃V,ixS (inS L f t) L.length 0=V:=⟨_,rfl⟩;rw[hV];refine callR (E:=E) E_ok Tryz.func193 rfl ?_;(repeat' first|exact aq|refine aN ?_ ?_|exact tU);all_goals try exact dd
 refine loopP E_ok [0,1,4,7] (fun i:Nat=>[(8,.int .i64 (i:Nat))]) (fun _ H=>H) (fun i=>i≤L.length∧ixS (inS L f t) (L.length-i) i=V) (fun i=>L.length-i) 0 ⟨Nat.zero_le _,hV⟩ ?_ ?_
 ·exact ent_tau [0,1] ⟨fPp,tMm,rfl⟩
 rintro i ⟨hi,hc⟩;have ei:=z1 i;refine And.intro ?_ (And.intro (fun hb=>?_) (fun hb=>?_))
 ·(repeat' first|exact aq|refine aN ?_ ?_|exact tU)
 ·have hin:i<L.length:=by
   have:=of_decide_eq_true hb;omega
  have hr:L.length-i=(L.length-(i+1))+1:=by omega
  rw[hr,ixS]at hc;have c:=t138 (L.getD (0+((i:Nat):Int).toNat) (0,0)).1 (L.getD (0+((i:Nat):Int).toNat) (0,0)).2 h f t l m ht;rw[show(decide ((L.getD (0+((i:Nat):Int).toNat) (0,0)).1≤f)&&decide (t-1≤(L.getD (0+((i:Nat):Int).toNat) (0,0)).2))=inS L f t i by rw[ei];rfl]at c;obtain⟨B,hB⟩: ∃B,inS L f t i=B:=⟨_,rfl⟩;rw[hB]at c hc;(repeat' first|exact aq|refine aN ?_ ?_|exact tU);all_goals try exact dd
  refine c.use [1] ?_ (fPp) rfl;cases B
  ·all_goals(repeat' first|exact aq|refine aN ?_ ?_|exact tU)
   all_goals try exact dd
   all_goals intro hx
   all_goals first|exact absurd hx (by decide)|(cases hx;done)|skip
   all_goals(repeat' first|exact aq|refine aN ?_ ?_|exact tU)
   all_goals try exact dd
   refine⟨i+1,⟨hin,hc⟩,by omega,?_⟩;exact ent_tau [0,1] ⟨fPp,tMm,rfl⟩
  ·simp only at hc;subst hc;all_goals(repeat' first|exact aq|refine aN ?_ ?_|exact tU)
   all_goals try exact dd
   all_goals intro hx
   all_goals first|exact absurd hx (by decide)|(cases hx;done)|skip
   all_goals(repeat' first|exact aq|refine aN ?_ ?_|exact tU)
   all_goals try exact dd
   exact ent_tau [0,1] ⟨fPp,tMm,rfl⟩
 ·have hin:i=L.length:=by
   have:=of_decide_eq_false hb;omega
  subst hin;rw[Nat.sub_self,ixS]at hc;subst hc;(repeat' first|exact aq|refine aN ?_ ?_|exact tU);all_goals try exact dd
  exact ent_tau [0,1] ⟨fPp,tMm,rfl⟩
theorem t193n(h f t l m:Int):CallP Tryz.prog 193 [.snil,.fn (.func 138) [] [.ptr 0 0]] [some (.roc (bxv h f t l m))] (Ret (.int .i64 (-1)) [some (.roc (bxv h f t l m))]):=by
 refine callR (E:=E) E_ok Tryz.func193 rfl ?_;(repeat' first|exact aq|refine aN ?_ ?_|exact tU);all_goals try exact dd
 refine loopP E_ok [0,1,4,7] (fun _:Unit=>[(8,.int .i64 0)]) (fun _ H=>H) (fun _=>True) (fun _=>0) () trivial ?_ ?_
 ·exact ent_tau [0] ⟨fPp,tMm,rfl⟩
 rintro _ _;all_goals(repeat' first|exact aq|refine aN ?_ ?_|exact tU)
 all_goals try exact dd
 all_goals intro hb
 all_goals first|exact absurd hb (by decide)|(cases hb;done)|skip
 all_goals(repeat' first|exact aq|refine aN ?_ ?_|exact tU)
 all_goals try exact dd
 exact ent_tau [0] ⟨fPp,tMm,rfl⟩
theorem t137(L:List (Int×Int))(cap:Nat)(hn:L.length≤9223372036854775807)(h f t l m:Int)(ht: -1000≤t∧t≤1000):CallP Tryz.prog 137 [.slice 0 2 0 L.length cap,.fn (.func 138) [] [.ptr 1 0]] [some (.roa 2 L.length (prow L)),some (.roc (bxv h f t l m))]
  (Ret (.bool ((List.range L.length).any (inS L f t))) [some (.roa 2 L.length (prow L)),some (.roc (bxv h f t l m))]):=by
 have c:=t193 L cap hn h f t l m ht;have e:=ixS_any (inS L f t) L.length 0;simp only[Nat.zero_add]at e;generalize ixS (inS L f t) L.length 0=V at c e;rw[←e];refine callR (E:=E) E_ok Tryz.func137 rfl ?_;(repeat' first|exact aq|refine aN ?_ ?_|exact tU);all_goals try exact dd
 refine c.use [0,1] ?_ (fPp) rfl;(repeat' first|exact aq|refine aN ?_ ?_|exact tU);all_goals try exact dd
 exact ent_tau [0,1] ⟨fPp,tMm,rfl⟩
theorem t137n(h f t l m:Int):CallP Tryz.prog 137 [.snil,.fn (.func 138) [] [.ptr 0 0]] [some (.roc (bxv h f t l m))] (Ret (.bool false) [some (.roc (bxv h f t l m))]):=by
 refine callR (E:=E) E_ok Tryz.func137 rfl ?_;(repeat' first|exact aq|refine aN ?_ ?_|exact tU);all_goals try exact dd
 refine(t193n h f t l m).use [0] ?_ (fPp) rfl;(repeat' first|exact aq|refine aN ?_ ?_|exact tU);all_goals try exact dd
 exact ent_tau [0] ⟨fPp,tMm,rfl⟩
end Go.Proofs.YthnhlkflkidemaaGreatDoor
/-
 Plain law of horses, part 9.
-/
namespace Kuhn
namespace HD
/-! ### Plans with other numbers of horses: as they come -/
open Classical in
noncomputable def fst(p:Nat→Int)(i:Nat):Nat:=if h: ∃k,p k=p i∧ ∀m,m<k→p m≠p i then h.choose else 0
def LeX(n:Nat)(p q:Nat→Int):Prop:= ∀i,i<n→(∀k,k<i→p k=q k)→p i≤q i
theorem LeX.trans{n:Nat}{p q r:Nat→Int}(h:LeX n p q)(h':LeX n q r):LeX n p r:=by
 intro i hi he;have key: ∀m,m≤i→ ∀k,k<m→p k=q k:=by
  intro m;induction m with
  |zero=>intro _ k hk;omega
  |succ m ih=>
   intro hm k hk;by_cases c:k=m
   ·subst c;have a := h k (by omega) (ih (by omega));have b := h' k (by omega) fun j hj => by rw [← ih (by omega) j hj]; exact he j (by omega)
    have:=he k (by omega);omega
   ·exact ih (by omega) k (by omega)
 have a:=h i hi (key i (Nat.le_refl i));have b:=h' i hi fun j hj=>by rw[←key i (Nat.le_refl i) j hj];exact he j hj
 omega
theorem LeX.same{n:Nat}{p q:Nat→Int}(h:LeX n p q)(h':LeX n q p): ∀m,m≤n→ ∀k,k<m→p k=q k:=by
 intro m;induction m with
 |zero=>intro _ k hk;omega
 |succ m ih=>
  intro hm k hk;by_cases c:k=m
  ·subst c;have a := h k (by omega) (ih (by omega));have b := h' k (by omega) fun j hj => (ih (by omega) j hj).symm
   omega
  ·exact ih (by omega) k (by omega)
end HD
end Kuhn
/-
 Plain law of horses, part 10.
-/
namespace Kuhn
namespace HD
/-! ### Fewer moves, other moves -/
theorem need_mono{h:HD}(hv:h.Valid){s:Bool}{ok ok':Nat→Bool}(hs: ∀i,i<h.n→ok i=true→ok' i=true):h.need s ok≤h.need s ok':=by
 obtain ⟨p, a, b⟩ := need_plan hv s ok';exact need_le hv (p := p) (fun i k hi hk oi ok'' hne e => b i k hi hk (hs i hi oi) (hs k hk ok'') hne e) fun i hi oi => a i hi (hs i hi oi)
theorem need_congr{h:HD}(hv:h.Valid){s:Bool}{ok ok':Nat→Bool}(hs: ∀i,i<h.n→ok i=ok' i):h.need s ok=h.need s ok':=
 Nat.le_antisymm (need_mono hv fun i hi e=>by rw[←hs i hi];exact e) (need_mono hv fun i hi e=>by rw[hs i hi];exact e)
structure Emb(x h:HD)(s:Bool)(e:Nat→Nat):Prop where
 lt: ∀a,a<x.n→e a<h.n
 inj: ∀a b,a<x.n→b<x.n→e a=e b→a=b
 can: ∀a b,a<x.n→b<x.n→x.can s a b=h.can s (e a) (e b)
def img(x:HD)(e:Nat→Nat)(j:Nat):Bool:=(List.range x.n).any fun a=>decide (e a=j)
theorem img_iff{x:HD}{e:Nat→Nat}{j:Nat} :img x e j=true↔ ∃a,a<x.n∧e a=j:=by
 simp[img]
theorem Emb.apart{x h:HD}{s:Bool}{e:Nat→Nat}(H:Emb x h s e){a b:Nat}(ha:a<x.n)(hb:b<x.n):x.apart s a b=h.apart s (e a) (e b):=by
 unfold HD.apart;rw[H.can a b ha hb,H.can b a hb ha]
open Classical in
noncomputable def inv(x:HD)(e:Nat→Nat)(j:Nat):Nat:=if h: ∃a,a<x.n∧e a=j then h.choose else 0
theorem inv_is{x:HD}{e:Nat→Nat}{j:Nat}(h:img x e j=true):inv x e j<x.n∧e (inv x e j)=j:=by
 have h':=img_iff.1 h;unfold inv;rw[dif_pos h'];exact h'.choose_spec
theorem Emb.need{x h:HD}{s:Bool}{e:Nat→Nat}(H:Emb x h s e)(hx:x.Valid)(hv:h.Valid):x.few s=h.need s (img x e):=by
 apply Nat.le_antisymm
 ·obtain⟨p,a,b⟩:=need_plan hv s (img x e);have im: ∀a,a<x.n→img x e (e a)=true:=fun a ha=>img_iff.2 ⟨a,ha,rfl⟩
  exact need_le hx (p:=fun i=>p (e i)) (fun i k hi hk _ _ hne q=>by
   rw [H.apart hi hk];exact b _ _ (H.lt i hi) (H.lt k hk) (im i hi) (im k hk) (fun c => hne (H.inj i k hi hk c)) q) fun i hi _ => a _ (H.lt i hi) (im i hi)
 ·obtain ⟨p, a, b⟩ := need_plan hx s full;refine need_le hv (p := fun j => p (inv x e j)) (fun i k hi hk oi ok' hne q => ?_) fun i hi oi => a _ (inv_is oi).1 rfl
  obtain⟨i1,i2⟩:=inv_is oi;obtain⟨k1,k2⟩:=inv_is ok';have:=b _ _ i1 k1 rfl rfl (fun c=>hne (by rw[←i2,←k2,c])) q;rw[H.apart i1 k1,i2,k2]at this;exact this
theorem Emb.few{x h:HD}{s:Bool}{e:Nat→Nat}(H:Emb x h s e)(hx:x.Valid)(hv:h.Valid)(hall: ∀j,j<h.n→ ∃a,a<x.n∧e a=j):x.few s=h.few s:=by
 rw[H.need hx hv];exact need_congr hv fun i hi=>img_iff.2 (hall i hi)
end HD
end Kuhn
/-
 Plain law of serves, part 1.
-/
namespace Srv
open Kuhn
/-! ### A beach: n bathers, w places; who is in which hut from when until when, how soft the sand can be, where the water is right -/
structure SB where
 n:Nat
 w:Nat
 hut:Nat→Nat
 fr:Nat→Int
 to:Nat→Int
 sh:Int
 ok:Nat→Nat→Bool
abbrev Hst:=Nat→Int×Int
def begS:Hst:=fun _=>(0,-1)
def upS(s:Hst)(h:Nat)(v:Int×Int):Hst:=fun k=>if k=h then v else s k
def updI(p:Nat→Int)(i:Nat)(x:Int):Nat→Int:=fun k=>if k=i then x else p k
def dst(a b:Int):Int:=max (b-a) (a-b)
def SB.lat(b:SB)(i:Nat)(x:Int)(v:Int×Int):Bool:=decide (0≤v.2∧b.fr i<v.2+b.sh*dst v.1 x)
def SB.brk(b:SB)(i:Nat)(x:Int)(v:Int×Int):Nat:=if b.ok i x.toNat then(if b.lat i x v then 2 else 0)else 1
def SB.go(b:SB)(set:Nat→Bool):List Nat→Hst→(Nat→Int)→List (Nat→Int)
 |[],s,p=>[p]
 |i::r,s,p=>if set i then(List.range b.w).flatMap fun(k:Nat)=>
   if b.brk i (k:Int) (s (b.hut i))=0 then b.go set r (upS s (b.hut i) ((k:Int),b.to i)) (updI p i (k:Int))else []
  else b.go set r s p
def SB.okP(b:SB)(set:Nat→Bool):List Nat→Hst→(Nat→Int)→Prop
 |[],s,q=>True
 |i::r,s,q=>if set i then(∃k:Nat,k<b.w∧q i=(k:Int))∧b.brk i (q i) (s (b.hut i))=0∧b.okP set r (upS s (b.hut i) (q i,b.to i)) q
  else b.okP set r s q
theorem mem_go(b:SB)(set:Nat→Bool): ∀(l:List Nat),l.Nodup→ ∀s p q,q∈b.go set l s p↔b.okP set l s q∧ ∀j,(j∈l→set j=false)→q j=p j
 |[],_,s,p,q=>by
  simp only[SB.go,SB.okP,List.mem_singleton,true_and];exact⟨fun h j _=>by rw[h],fun h=>funext fun j=>h j (fun hj=>absurd hj List.not_mem_nil)⟩
 |i::r,hn,s,p,q=>by
  have hn':=List.nodup_cons.1 hn;have ih:=mem_go b set r hn'.2;cases hs:set i with
  |false=>
   simp only[SB.go,SB.okP,hs,Bool.false_eq_true,if_false];rw[ih];refine and_congr Iff.rfl ⟨fun h j hj=>h j fun hr=>hj (List.mem_cons_of_mem _ hr),fun h j hj=>h j fun hr=>?_⟩;rcases List.mem_cons.1 hr with e|hr
   ·rw[e];exact hs
   ·exact hj hr
  |true=>
   simp only[SB.go,SB.okP,hs,if_true,List.mem_flatMap,List.mem_range];constructor
   ·rintro⟨k,hk,hq⟩;split at hq
    ·next hb=>
     obtain⟨h1,h2⟩:=(ih _ _ _).1 hq;have e:q i=(k:Int):=by
      rw[h2 i (fun h=>absurd h hn'.1)];simp[updI]
     refine⟨⟨⟨k,hk,e⟩,?_,?_⟩,fun j hj=>?_⟩
     ·rw[e];exact hb
     ·rw[e];exact h1
     ·have hji:j≠i:=fun e2=>by
       have:=hj (e2▸List.mem_cons_self);rw[e2,hs]at this;exact Bool.noConfusion this
      rw[h2 j (fun hr=>hj (List.mem_cons_of_mem _ hr))];simp[updI,hji]
    ·exact absurd hq List.not_mem_nil
   ·rintro⟨⟨⟨k,hk,e⟩,h1,h2⟩,h3⟩;refine⟨k,hk,?_⟩;rw[e]at h1 h2;rw[if_pos h1];refine(ih _ _ _).2 ⟨h2,fun j hj=>?_⟩;by_cases c:j=i
    ·subst c;simp[updI,e]
    ·simp only[updI,if_neg c];exact h3 j fun hr=>hj ((List.mem_cons.1 hr).resolve_left c)
theorem go_set(b:SB){set set':Nat→Bool} : ∀(l:List Nat),(∀i,i∈l→set i=set' i)→ ∀s p,b.go set l s p=b.go set' l s p
 |[],_,s,p=>rfl
 |i::r,h,s,p=>by
  simp only[SB.go,←h i List.mem_cons_self];split
  ·refine congrArg (fun f=>(List.range b.w).flatMap f) (funext fun k=>?_);split
   ·exact go_set b r (fun j hj=>h j (List.mem_cons_of_mem _ hj)) _ _
   ·rfl
  ·exact go_set b r (fun j hj=>h j (List.mem_cons_of_mem _ hj)) _ _
/-! ### What huts are like behind some bathers -/
def SB.valS(b:SB)(q:Nat→Int):Option Nat→Int×Int
 |none=>(0,-1)
 |some k=>(q k,b.to k)
def SB.Prv(b:SB)(set:Nat→Bool)(k i:Nat):Prop:=
 (k<b.n∧set k=true∧b.hut k=b.hut i∧befo b.fr k i)∧ ∀m,m<b.n→set m=true→b.hut m=b.hut i→befo b.fr m i→m=k∨befo b.fr m k
structure SB.Right(b:SB)(set:Nat→Bool)(q:Nat→Int):Prop where
 rng: ∀i,i<b.n→set i=true→ ∃k:Nat,k<b.w∧q i=(k:Int)
 wet: ∀i,i<b.n→set i=true→b.ok i (q i).toNat=true
 tim: ∀i k,i<b.n→set i=true→b.Prv set k i→b.to k+b.sh*dst (q k) (q i)≤b.fr i
def SB.Tm(b:SB):Prop:= ∀i,i<b.n→0≤b.fr i∧b.fr i<b.to i
structure OrdB(b:SB)(set:Nat→Bool)(l:List Nat)(o:Nat→Option Nat):Prop where
 nd:l.Pairwise (befo b.fr)
 lt: ∀i,i∈l→i<b.n
 none: ∀h,o h=none→ ∀m,m<b.n→set m=true→b.hut m=h→m∈l
 some: ∀h k,o h=some k→k<b.n∧set k=true∧b.hut k=h∧(∀i,i∈l→befo b.fr k i)∧ ∀m,m<b.n→set m=true→b.hut m=h→m∈l∨m=k∨befo b.fr m k
theorem OrdB.next{b:SB}{set:Nat→Bool}{i:Nat}{r:List Nat}{o:Nat→Option Nat}(H:OrdB b set (i::r) o):
  OrdB b set r (fun h=>if set i=true∧b.hut i=h then Option.some i else o h):=by
 obtain⟨n1,n2⟩:=List.pairwise_cons.1 H.nd;refine⟨n2,fun j hj=>H.lt j (List.mem_cons_of_mem _ hj),fun h he m hm hs hh=>?_,fun h k he=>?_⟩
 ·by_cases c:set i=true∧b.hut i=h
  ·rw[if_pos c]at he;exact absurd he (by simp)
  ·rw[if_neg c]at he;rcases List.mem_cons.1 (H.none h he m hm hs hh)with e|hr
   ·subst e;exact absurd ⟨hs,hh⟩ c
   ·exact hr
 ·by_cases c:set i=true∧b.hut i=h
  ·rw[if_pos c]at he;injection he with he;subst he;refine⟨H.lt _ List.mem_cons_self,c.1,c.2,fun j hj=>n1 j hj,fun m hm hs hh=>?_⟩;cases ho:o h with
   |none=>
    rcases List.mem_cons.1 (H.none h ho m hm hs hh)with e|hr
    ·exact .inr (.inl e)
    ·exact .inl hr
   |some k'=>
    obtain⟨h1,h2,h3,h4,h5⟩:=H.some h k' ho;have h6:=h4 _ List.mem_cons_self;rcases h5 m hm hs hh with e|e|e
    ·rcases List.mem_cons.1 e with e|hr
     ·exact .inr (.inl e)
     ·exact .inl hr
    ·subst e;exact .inr (.inr h6)
    ·exact .inr (.inr (befo_tr e h6))
  ·rw[if_neg c]at he;obtain⟨h1,h2,h3,h4,h5⟩:=H.some h k he;refine⟨h1,h2,h3,fun j hj=>h4 j (List.mem_cons_of_mem _ hj),fun m hm hs hh=>?_⟩;rcases h5 m hm hs hh with e|e|e
   ·rcases List.mem_cons.1 e with e|hr
    ·subst e;exact absurd ⟨hs,hh⟩ c
    ·exact .inl hr
   ·exact .inr (.inl e)
   ·exact .inr (.inr e)
theorem OrdB.prv{b:SB}{set:Nat→Bool}{i:Nat}{r:List Nat}{o:Nat→Option Nat}(H:OrdB b set (i::r) o)(k:Nat):b.Prv set k i↔o (b.hut i)=Option.some k:=by
 have n1:=(List.pairwise_cons.1 H.nd).1;constructor
 ·rintro⟨⟨h1,h2,h3,h4⟩,h5⟩;cases ho:o (b.hut i)with
  |none=>
   rcases List.mem_cons.1 (H.none _ ho k h1 h2 h3)with e|hr
   ·subst e;exact absurd h4 befo_irr
   ·exact absurd (befo_tr h4 (n1 k hr)) befo_irr
  |some k'=>
   obtain⟨g1,g2,g3,g4,g5⟩:=H.some _ k' ho;have g6:=g4 i List.mem_cons_self;rcases h5 k' g1 g2 g3 g6 with e|e
   ·rw[e]
   ·rcases g5 k h1 h2 h3 with e2|e2|e2
    ·rcases List.mem_cons.1 e2 with e3|hr
     ·subst e3;exact absurd h4 befo_irr
     ·exact absurd (befo_tr h4 (n1 k hr)) befo_irr
    ·rw[e2]
    ·exact absurd (befo_tr e e2) befo_irr
 ·intro ho;obtain⟨g1,g2,g3,g4,g5⟩:=H.some _ k ho;refine⟨⟨g1,g2,g3,g4 i List.mem_cons_self⟩,fun m hm hs hh hb=>?_⟩;rcases g5 m hm hs hh with e|e|e
  ·rcases List.mem_cons.1 e with e3|hr
   ·subst e3;exact absurd hb befo_irr
   ·exact absurd (befo_tr hb (n1 m hr)) befo_irr
  ·exact .inl e
  ·exact .inr e
theorem brk_zero{b:SB}{i:Nat}{x:Int}{v:Int×Int} :b.brk i x v=0↔b.ok i x.toNat=true∧b.lat i x v=false:=by
 unfold SB.brk;cases b.ok i x.toNat<;>cases b.lat i x v<;>simp
theorem lat_val{b:SB}(ht:b.Tm){set:Nat→Bool}{l:List Nat}{o:Nat→Option Nat}(H:OrdB b set l o)(q:Nat→Int)(i:Nat)(x:Int)(h:Nat):
  b.lat i x (b.valS q (o h))=false↔ ∀k,o h=Option.some k→b.to k+b.sh*dst (q k) x≤b.fr i:=by
 cases ho:o h with
 |none=>simp[SB.lat,SB.valS]
 |some k=>
  have:=ht k (H.some h k ho).1;constructor
  ·intro h1 k' e;injection e with e;subst e;have h2:=of_decide_eq_false h1;simp only[SB.valS]at h2;omega
  ·intro h1;have h2:=h1 k rfl;refine decide_eq_false fun h3=>?_
   simp only[SB.valS]at h3;omega
theorem upS_val(b:SB)(set:Nat→Bool)(q:Nat→Int)(i:Nat)(hs:set i=true)(o:Nat→Option Nat):
  upS (fun h=>b.valS q (o h)) (b.hut i) (q i,b.to i)=fun h=>b.valS q (if set i=true∧b.hut i=h then Option.some i else o h):=by
 funext h;by_cases c:h=b.hut i
 ·subst c;simp[upS,hs,SB.valS]
 ·have c2: ¬(set i=true∧b.hut i=h):=fun e=>c e.2.symm
  simp only[upS,if_neg c,if_neg c2]
theorem okP_iff{b:SB}(ht:b.Tm){set:Nat→Bool}(q:Nat→Int): ∀(l:List Nat) (o:Nat→Option Nat),OrdB b set l o→
  (b.okP set l (fun h=>b.valS q (o h)) q↔ ∀i,i∈l→set i=true→(∃k:Nat,k<b.w∧q i=(k:Int))∧b.ok i (q i).toNat=true∧ ∀k,b.Prv set k i→b.to k+b.sh*dst (q k) (q i)≤b.fr i)
 |[],o,H=>by simp[SB.okP]
 |i::r,o,H=>by
  have ih:=okP_iff ht q r _ H.next;cases hs:set i with
  |false=>
   simp only[SB.okP,hs,Bool.false_eq_true,if_false];have e:(fun h=>b.valS q (if set i=true∧b.hut i=h then Option.some i else o h))=fun h=>b.valS q (o h):=funext fun h=>by simp[hs]
   rw[e]at ih;rw[ih];refine⟨fun h j hj hsj=>?_,fun h j hj=>h j (List.mem_cons_of_mem _ hj)⟩;rcases List.mem_cons.1 hj with e2|hr
   ·subst e2;rw[hs]at hsj;exact Bool.noConfusion hsj
   ·exact h j hr hsj
  |true=>
   simp only[SB.okP,hs,if_true];rw[upS_val b set q i hs o,ih,brk_zero,lat_val ht H];constructor
   ·rintro⟨h1,⟨h2,h3⟩,h4⟩ j hj hsj;rcases List.mem_cons.1 hj with e2|hr
    ·subst e2;exact⟨h1,h2,fun k hk=>h3 k ((H.prv k).1 hk)⟩
    ·exact h4 j hr hsj
   ·intro h;obtain⟨h1,h2,h3⟩:=h i List.mem_cons_self hs;exact⟨h1,⟨h2,fun k hk=>h3 k ((H.prv k).2 hk)⟩,fun j hj=>h j (List.mem_cons_of_mem _ hj)⟩
def SB.ord(b:SB):List Nat:=(List.range b.n).map (srtF b.fr b.n)
theorem ord_mem(b:SB)(i:Nat):i∈b.ord↔i<b.n:=by
 obtain⟨h1,h2,h3⟩:=srtF_ok b.fr b.n;simp only[SB.ord,List.mem_map,List.mem_range];exact h3 i
theorem ord_pw(b:SB):b.ord.Pairwise (befo b.fr):=by
 obtain⟨h1,h2,h3⟩:=srtF_ok b.fr b.n;refine List.pairwise_map.2 (List.Pairwise.imp_of_mem (fun{a c} ha hc hac=>?_) List.pairwise_lt_range);exact h1 a c hac (List.mem_range.1 hc)
theorem ord_nd(b:SB):b.ord.Nodup:=(ord_pw b).imp fun{a c} h e=>by
 subst e;exact befo_irr h
theorem ord_ok(b:SB)(set:Nat→Bool):OrdB b set b.ord (fun _=>Option.none):=
 ⟨ord_pw b,fun i h=>(ord_mem b i).1 h,fun _ _ m hm _ _=>(ord_mem b m).2 hm,fun h k e=>by cases e⟩
theorem okP_right{b:SB}(ht:b.Tm)(set:Nat→Bool)(q:Nat→Int):b.okP set b.ord begS q↔b.Right set q:=by
 have h:=okP_iff ht q b.ord (fun _=>Option.none) (ord_ok b set);have e:(fun _:Nat=>b.valS q Option.none)=begS:=rfl;rw[e]at h;rw[h];constructor
 ·intro H;exact⟨fun i hi hs=>(H i ((ord_mem b i).2 hi) hs).1,fun i hi hs=>(H i ((ord_mem b i).2 hi) hs).2.1,fun i k hi hs hk=>(H i ((ord_mem b i).2 hi) hs).2.2 k hk⟩
 ·intro H i hi hs;have hi:=(ord_mem b i).1 hi;exact⟨H.rng i hi hs,H.wet i hi hs,fun k hk=>H.tim i k hi hs hk⟩
def SB.plans(b:SB)(set:Nat→Bool):List (Nat→Int):=b.go set b.ord begS (fun _=>0)
theorem mem_plans{b:SB}(ht:b.Tm)(set:Nat→Bool)(q:Nat→Int):q∈b.plans set↔b.Right set q∧ ∀j,(j<b.n→set j=false)→q j=0:=by
 unfold SB.plans;rw[mem_go b set b.ord (ord_nd b),okP_right ht];exact and_congr Iff.rfl ⟨fun h j hj=>h j fun hm=>hj ((ord_mem b j).1 hm),fun h j hj=>h j fun hm=>hj ((ord_mem b j).2 hm)⟩
end Srv
