/-
  Parts: Plans, TiB4b, TiB9, S2, HoQe, S8, V42, V43, V57.
-/
import Derived.Test.YthnhlkflkidemaaGreatDoorB38
import Derived.ProofKit
import Derived.OpenShut
import Derived.Carry
import Derived.Test.YthnhlkflkidemaaGreatDoorRows
set_option linter.unusedVariables false
set_option linter.unusedSimpArgs false
/-
 The plans of the regions that draw their order: printed by a program.
-/
namespace Go.Proofs.YthnhlkflkidemaaGreatDoor
open Go Go.Sy
def pl47_3:Plan:=eg [0,1,3,4]<| .alt 2 (.alt 5 (.alt 6 (.alt 7 (.done) .no) .no) .no) .no
set_option maxRecDepth 100000
set_option maxHeartbeats 4000000
attribute [local irreducible] CallP CodeP Ent YieldP
set_option maxHeartbeats 800000
noncomputable def B44_2(t:TD)(c0 c1:Int):SHeap:=[some (.roa 3 t.nM (row3 t.mi t.mlo t.mhi)),some (.roa 2 t.nS (row2 t.slo t.shi)),some (.roa 4 t.nL (row4 t.lp t.lm t.llo t.lhi)),some (.roc [.int .i64 c0]),some (.roc [.int .i64 c1])]
theorem u44_2(t:TD)(c0 c1:Int)(f:Nat)(hf:f=106)(b:Bool)
  (his:t.Valid→CallP Tryz.prog f [.ptr 0 0,.ptr 5 0,.ptr 6 0] (t.shore++[some (.roc [.int .i64 c0]),some (.roc [.int .i64 c1])]) (Ret (.bool b) (t.shore++[some (.roc [.int .i64 c0]),some (.roc [.int .i64 c1])]))):
  CallP Tryz.prog 98 [t.A,.fn (.func f) [] [.ptr 3 0,.ptr 4 0]] (B44_2 t c0 c1) (K44 t b (B44_2 t c0 c1) 5 6):=by
 refine callK (E:=E) E_ok Tryz.func98 rfl ?_
 refine aN ?_ ?_
 ·exact sA
 refine(u90 _ _ _).use [] ?_ (qZ0) rfl
 refine aN ?_ ?_
 ·exact sA
 refine And.intro (fun h1=>?_) (fun h1=>?_)
 ·refine(u90 _ _ _).use [] ?_ (qZ0) rfl
  refine aN ?_ ?_
  ·exact sA
  refine must (fun hb=>?_) (fun hb=>?_)
  ·-- the lists are as long as they may be
   have hb':(2≤t.nM∧t.nM≤4)∧(1≤t.nS∧t.nS≤4)∧t.nL≤6:=by
    simp[inB,gB,wB]at hb h1
    omega
   obtain⟨hM,hS,hL⟩:=hb'
   refine aN ?_ ?_
   ·exact sA
   refine loopP E_ok [0,1,2,5,31,32] (fun i:Nat=>[(33,.int .i64 i)]) (fun _ H=>H) (fun i=>i≤t.nM∧ ∀j,j<i→t.markOk j) (fun i=>t.nM-i) 0 ⟨Nat.zero_le _,fun j h=>by omega⟩ ?_ ?_
   ·exact ent_tau [0,1,2,3,4,5] ⟨qZ0,qZ1,rfl⟩
   ·rintro i ⟨hi,hall⟩
    refine And.intro ?_ (And.intro (fun hlt=>?_) (fun hlt=>?_))
    ·exact sA
    ·have hlt':i<t.nM:=by simpa using hlt
     have ei:(0+(i:Int).toNat)=i:=by omega
     have ei':(0+((i:Int)-1).toNat)=i-1:=by omega
     refine aN ?_ ?_
     ·simp[AllP,under,gB,wB,inR_iff,IntKind.bits]
      omega
     rw[ei]
     refine drawQ E_ok [5,6] pl98_6 (by kernel_rfl) ?_
     refine And.intro (And.intro ?_ ?_) trivial
     ·exact sA
     refine(u90 _ _ _).use [] ?_ (qZ0) rfl
     refine And.intro (And.intro ?_ (And.intro (fun h2=>?_) (fun h2=>?_))) trivial
     ·exact sA
     ·refine(u95 _ _).use [] ?_ (qZ0) rfl
      refine And.intro (And.intro ?_ ?_) trivial
      ·have hp:=fun h=>hall (i-1) h
       simp only[TD.markOk]at hp
       simp[inB,gB,wB]at h2
       simp[AllP,under,gB,wB,inR_iff,IntKind.bits,ei',inB,hiB]
       omega
      ·refine must (fun hb=>?_) (fun hb=>?_)
       ·refine aN ?_ ?_
        ·exact sA
        refine aN ?_ ?_
        ·exact rfl
        refine And.intro ?_ ⟨i+1,⟨hlt',fun j hj=>?_⟩,by omega,?_⟩
        ·simp[AllP,under,gB,wB,inR_iff,IntKind.bits]
         omega
        ·rcases Nat.lt_or_ge j i with hji|hji
         ·exact hall j hji
         ·have:j=i:=by omega
          subst this
          rw[ei']at hb
          simp[inB,hiB,gB,wB]at h2 hb
          simp only[TD.markOk]
          omega
        ·exact ent_tau [0,1,2,3,4,5] ⟨qZ0,qZ1,rfl⟩
       ·refine aN ?_ ?_
        ·exact sA
        refine aN ?_ ?_
        ·exact rfl
        refine And.intro trivial ?_
        refine And.intro ?_ ⟨_,_,.inr (.inl ⟨fun hv=>?_,rfl,rfl⟩),?_⟩
        ·exact sA
        ·have hm:=hv.2.2.2.1 i hlt'
         simp only[TD.markOk]at hm
         rw[ei']at hb
         simp[inB,hiB,gB,wB]at h2 hb
         omega
        ·exact ent_tau [0,1,2,3,4] ⟨qZ0,qZ1,rfl⟩
     ·refine And.intro (And.intro ?_ ?_) trivial
      ·simp[AllP,under,gB,wB,inR_iff,IntKind.bits]
       simpa[gB,wB]using h2
      ·have h2':inB (t.mi i) 0 240=false:=by simpa[gB,wB]using h2
       refine must (fun hb=>?_) (fun hb=>?_)
       ·simp[h2']at hb
       ·refine aN ?_ ?_
        ·exact sA
        refine aN ?_ ?_
        ·exact rfl
        refine And.intro trivial ?_
        refine And.intro ?_ ⟨_,_,.inr (.inl ⟨fun hv=>?_,rfl,rfl⟩),?_⟩
        ·exact sA
        ·have hm:=hv.2.2.2.1 i hlt'
         simp only[TD.markOk]at hm
         simp[inB,gB,wB]at h2
         omega
        ·exact ent_tau [0,1,2,3,4] ⟨qZ0,qZ1,rfl⟩
    ·have hiM:i=t.nM:=by
      have: ¬(i<t.nM):=by simpa using hlt
      omega
     subst hiM
     refine aN ?_ ?_
     ·exact sA
     refine And.intro trivial ?_
     refine⟨t.F,?_⟩
     refine aN ?_ ?_
     ·exact sA
     refine loopP E_ok [0,1,2,5,8,71,72] (fun i:Nat=>[(73,.int .i64 i)]) (fun _ H=>H) (fun i=>i≤t.nS∧ ∀j,j<i→t.sandOk j) (fun i=>t.nS-i) 0 ⟨Nat.zero_le _,fun j h=>by omega⟩ ?_ ?_
     ·exact ent_tau [0,1,2,3,4,5,6,7] ⟨qZ0,qZ1,rfl⟩
     ·rintro i ⟨hi,hsand⟩
      refine And.intro ?_ (And.intro (fun hlt2=>?_) (fun hlt2=>?_))
      ·exact sA
      ·have hlt':i<t.nS:=by simpa using hlt2
       have ei:(0+(i:Int).toNat)=i:=by omega
       refine aN ?_ ?_
       ·simp[AllP,under,gB,wB,inR_iff,IntKind.bits]
        omega
       rw[ei]
       refine(u95 _ _).use [] ?_ (qZ0) rfl
       refine aN ?_ ?_
       ·exact sA
       refine must (fun hb=>?_) (fun hb=>?_)
       ·refine And.intro ?_ ⟨i+1,⟨hlt',fun j hj=>?_⟩,by omega,?_⟩
        ·simp[AllP,under,gB,wB,inR_iff,IntKind.bits]
         omega
        ·rcases Nat.lt_or_ge j i with hji|hji
         ·exact hsand j hji
         ·have:j=i:=by omega
          subst this
          simp[hiB]at hb
          simp only[TD.sandOk]
          omega
        ·exact ent_tau [0,1,2,3,4,5,6,7] ⟨qZ0,qZ1,rfl⟩
       ·refine aN ?_ ?_
        ·exact sA
        refine And.intro ?_ ⟨_,_,.inr (.inl ⟨fun hv=>?_,rfl,rfl⟩),?_⟩
        ·exact sA
        ·have hm:=hv.2.2.2.2.1 i hlt'
         simp only[TD.sandOk]at hm
         simp[hiB]at hb
         omega
        ·exact ent_tau [0,1,2,3,4] ⟨qZ0,qZ1,rfl⟩
      ·have hiS:i=t.nS:=by
        have: ¬(i<t.nS):=by simpa using hlt2
        omega
       subst hiS
       refine aN ?_ ?_
       ·exact sA
       refine And.intro trivial ?_
       refine loopP E_ok [0,1,8,83,84] (fun i:Nat=>[(85,.int .i64 i)]) (fun _ H=>H) (fun i=>i≤t.nL∧ ∀j,j<i→t.lookOk j) (fun i=>t.nL-i) 0 ⟨Nat.zero_le _,fun j h=>by omega⟩ ?_ ?_
       ·exact ent_tau [0,1,2,3,4,5,6,7] ⟨qZ0,qZ1,rfl⟩
       ·rintro i ⟨hi,hlook⟩
        refine And.intro ?_ (And.intro (fun hlt3=>?_) (fun hlt3=>?_))
        ·exact sA
        ·have hlt':i<t.nL:=by simpa using hlt3
         have ei:(0+(i:Int).toNat)=i:=by omega
         refine aN ?_ ?_
         ·simp[AllP,under,gB,wB,inR_iff,IntKind.bits]
          omega
         rw[ei]
         refine(u46 t (by omega) (t.lp i)).use [7,0,1,2,6] ?_ (qZ0) rfl
         refine And.intro ?_ (And.intro (fun h6=>?_) (fun h6=>?_))
         ·exact sA
         ·have h6':inB (t.lp i) 0 (t.nS-1)=true:=by simpa[gB,wB]using h6
          refine(u57 t (by omega) (by omega) (t.lm i)).use [7,0,1,2,6] ?_ (qZ0) rfl
          refine And.intro ?_ (And.intro (fun h7=>?_) (fun h7=>?_))
          ·exact sA
          ·have h7':inB (t.lm i) (t.mi 0) (t.mi (t.nM-1))=true:=by simpa[gB,wB,h6']using h7
           refine(u96 _ _).use [] ?_ (qZ0) rfl
           refine aN ?_ ?_
           ·exact sA
           refine must (fun hb=>?_) (fun hb=>?_)
           ·refine And.intro ?_ ⟨i+1,⟨hlt',fun j hj=>?_⟩,by omega,?_⟩
            ·simp[AllP,under,gB,wB,inR_iff,IntKind.bits]
             omega
            ·rcases Nat.lt_or_ge j i with hji|hji
             ·exact hlook j hji
             ·have:j=i:=by omega
              subst this
              simp[inB,hiB,gB,wB]at hb h6' h7'
              simp only[TD.lookOk]
              omega
            ·exact ent_tau [0,1,2,3,4,5,6,7] ⟨qZ0,qZ1,rfl⟩
           ·refine aN ?_ ?_
            ·exact sA
            refine And.intro ?_ ⟨_,_,.inr (.inl ⟨fun hv=>?_,rfl,rfl⟩),?_⟩
            ·exact sA
            ·have hm:=hv.2.2.2.2.2 i hlt'
             simp only[TD.lookOk]at hm
             simp[inB,hiB,gB,wB,h6',h7']at hb h6' h7'
             omega
            ·exact ent_tau [0,1,2,3,4] ⟨qZ0,qZ1,rfl⟩
          ·have h7':inB (t.lm i) (t.mi 0) (t.mi (t.nM-1))=false:=by simpa[gB,wB,h6']using h7
           refine aN ?_ ?_
           ·simp[AllP,under,gB,wB,inR_iff,IntKind.bits]
            simp[h6',h7']
           refine must (fun hb=>?_) (fun hb=>?_)
           ·simp[h6',h7']at hb
           ·refine aN ?_ ?_
            ·exact sA
            refine And.intro ?_ ⟨_,_,.inr (.inl ⟨fun hv=>?_,rfl,rfl⟩),?_⟩
            ·exact sA
            ·have hm:=hv.2.2.2.2.2 i hlt'
             simp only[TD.lookOk]at hm
             simp[inB,hiB,gB,wB]at h6' h7'
             omega
            ·exact ent_tau [0,1,2,3,4] ⟨qZ0,qZ1,rfl⟩
         ·have h6':inB (t.lp i) 0 (t.nS-1)=false:=by simpa[gB,wB]using h6
          refine And.intro ?_ (And.intro (fun h7=>?_) (fun h7=>?_))
          ·simp[AllP,under,gB,wB,inR_iff,IntKind.bits]
           exact h6'
          ·simp[gB,wB,h6']at h7
          ·refine aN ?_ ?_
           ·exact sA
           refine must (fun hb=>?_) (fun hb=>?_)
           ·simp[h6']at hb
           ·refine aN ?_ ?_
            ·exact sA
            refine And.intro ?_ ⟨_,_,.inr (.inl ⟨fun hv=>?_,rfl,rfl⟩),?_⟩
            ·exact sA
            ·have hm:=hv.2.2.2.2.2 i hlt'
             simp only[TD.lookOk]at hm
             simp[inB,hiB,gB,wB]at h6'
             omega
            ·exact ent_tau [0,1,2,3,4] ⟨qZ0,qZ1,rfl⟩
        ·have hiL:i=t.nL:=by
          have: ¬(i<t.nL):=by simpa using hlt3
          omega
         subst hiL
         have hv:t.Valid:=⟨hM,hS,hL,hall,hsand,hlook⟩
         refine aN ?_ ?_
         ·exact sA
         rcases hf with rfl
         ·refine aN ?_ ?_
          ·exact sA
          refine(his hv).use [7,0,1,2,6,3,4] ?_ (qZ0) rfl
          refine aN ?_ ?_
          ·exact sA
          refine must (fun hb=>?_) (fun hb=>?_)
          ·refine And.intro ?_ ⟨_,_,.inl ⟨hv,hb,rfl,rfl⟩,?_⟩
           ·exact sA
           exact ent_tau [0,1,2,3,4,7,6] ⟨qZ0,qZ1,rfl⟩
          ·refine And.intro ?_ ⟨_,_,.inr (.inr ⟨hv,hb,rfl,rfl⟩),?_⟩
           ·exact sA
           exact ent_tau [0,1,2,3,4] ⟨qZ0,qZ1,rfl⟩
  ·refine And.intro ?_ ⟨_,_,.inr (.inl ⟨fun hv=>?_,rfl,rfl⟩),?_⟩
   ·exact sA
   ·have h3:=hv.1
    have h4:=hv.2.1
    have h5:=hv.2.2.1
    simp[inB,gB,wB]at hb h1
    omega
   ·exact ent_tau [0,1,2,3,4] ⟨qZ0,qZ1,rfl⟩
 ·have h1':inB (t.nM:Int) 2 4=false:=by simpa[gB,wB]using h1
  refine aN ?_ ?_
  ·simp[AllP,under,gB,wB,inR_iff,IntKind.bits]
   exact h1'
  refine must (fun hb=>?_) (fun hb=>?_)
  ·simp[h1']at hb
  ·refine And.intro ?_ ⟨_,_,.inr (.inl ⟨fun hv=>?_,rfl,rfl⟩),?_⟩
   ·exact sA
   ·have h3:=hv.1
    simp[inB,gB,wB]at h1
    omega
   ·exact ent_tau [0,1,2,3,4] ⟨qZ0,qZ1,rfl⟩
theorem u77(t:TD)(p m:Int)(hv:t.Valid):CallP Tryz.prog 106 [.ptr 0 0,.ptr 5 0,.ptr 6 0] (t.shore++[some (.roc [.int .i64 p]),some (.roc [.int .i64 m])]) (Ret (.bool (inB p 0 (t.nS-1)&&inB m (t.mi 0) (t.mi (t.nM-1)))) (t.shore++[some (.roc [.int .i64 p]),some (.roc [.int .i64 m])])):=by
 have hS:=hv.2.1;have hM:=hv.1;refine callR (E:=E) E_ok Tryz.func106 rfl ?_;refine aN ?_ ?_
 ·exact sA
 refine(u46 t (by omega) p).use [0,1,2,3,4] ?_ (qZ0) rfl;refine And.intro ?_ (And.intro (fun hc=>?_) (fun hc=>?_))
 ·exact sA
 ·refine(u57 t (by omega) (by omega) m).use [0,1,2,3,4] ?_ (qZ0) rfl;refine aN ?_ ?_
  ·exact sA
  refine ent_tau [0,1,2,3,4,5,6] ⟨qZ0,⟨rfl,?_,trivial⟩,rfl⟩;refine congrArg SV.bool ?_;cases inB p 0 (t.nS-1)<;>rfl
 ·have hc':inB p 0 (t.nS-1)=false:=by simpa[gB,wB]using hc
  refine aN ?_ ?_
  ·simp[AllP,under,gB,wB,inR_iff,IntKind.bits];exact hc'
  refine ent_tau [0,1,2,3,4,5,6] ⟨qZ0,⟨rfl,?_,trivial⟩,rfl⟩;refine congrArg SV.bool ?_;rw[hc'];rfl
open Classical in
noncomputable def TD.depthT(t:TD)(p m:Int):ToldT (Int×Int):=
 if¬t.Valid then⟨(0,0),1⟩else if¬(t.isPl p∧t.isMin m)then⟨(0,0),2⟩else if t.all=[]then⟨(0,0),10⟩else⟨(hulLo (a98 t m p.toNat) t.all t.all.length,hulHi (b98 t m p.toNat) t.all t.all.length),0⟩
theorem u25(t:TD)(p m:Int):CallP Tryz.prog 47 [t.A,.int .i64 p,.int .i64 m] t.HG (Ret (.tup [.agg [.int .i64 (t.depthT p m).v.1,.int .i64 (t.depthT p m).v.2],.int .i64 (t.depthT p m).e]) t.HG):=by
 refine callD (E:=E) E_ok Tryz.func47 rfl Tryz.func105 ⟨_,_,_,_,_,_,_,_,rfl,rfl,rfl⟩ rfl rfl ?_;refine aN ?_ ?_
 ·exact sA
 refine CallP.frame (u44_2 t p m 106 rfl _ (u77 t p m)) [0,1,2,6,7] (qZ0) (apartB_ok rfl) rfl ?_;rintro ce h' (⟨hv,hb,rfl,rfl⟩|⟨hv,rfl,rfl⟩|⟨hv,hb,rfl,rfl⟩)
 ·refine⟨ownB_ok rfl,?_⟩;rw[Bool.and_eq_true]at hb;have hpm:t.isPl p∧t.isMin m:=⟨inB_iff.1 hb.1,inB_iff.1 hb.2⟩;refine aN ?_ ?_
  ·exact sA
  refine drawQ E_ok [6,7] pl47_3 (by kernel_rfl) ?_;refine And.intro (And.intro ?_ ?_) trivial
  ·exact sA
  refine CallP.frame (u48 t hv) [10,0,1,2,11,3] (qZ0) (apartB_ok rfl) rfl ?_;rintro ce h' (⟨h0,rfl,rfl⟩|⟨h0,cap,hc1,hc2,rfl,rfl⟩)
  ·refine⟨ownB_ok rfl,?_⟩;have e0:t.depthT p m=⟨(0,0),10⟩:=by simp[TD.depthT,hv,hpm,h0]
   refine aN ?_ ?_
   ·exact sA
   refine aN ?_ ?_
   ·exact rfl
   refine aN ?_ ?_
   ·exact sA
   refine(u43_stop 0 10).use [9] ?_ (qZ0) rfl;refine And.intro ?_ ⟨_,_,⟨rfl,rfl⟩,?_⟩
   ·exact sA
   rw[e0];exact ent_tau [0,1,2,3,4] ⟨qZ0,qZ1,rfl⟩
  ·refine⟨ownB_ok rfl,?_⟩;have hne: ¬t.all=[]:=fun h=>by rw[h]at h0;simp at h0
   have e0:t.depthT p m=⟨(hulLo (a98 t m p.toNat) t.all t.all.length,hulHi (b98 t m p.toNat) t.all t.all.length),0⟩:=by simp[TD.depthT,hv,hpm,hne]
   have hlen:=all_len hv;obtain⟨q,hq⟩:=Int.eq_ofNat_of_zero_le hpm.1.1;subst hq;have hq2:=hpm.1.2;rw[Int.toNat_natCast]at e0;refine And.intro (And.intro ?_ ?_) trivial
   ·exact sA
   refine(u50 t hv t.all (all_full hv) (by omega) cap q m hpm.2 (by omega)).use [10,0,1,2,11,3,12,4] ?_ (qZ0) rfl;refine And.intro (And.intro ?_ trivial) trivial;refine aN ?_ ?_
   ·exact sA
   refine aN ?_ ?_
   ·exact rfl
   refine aN ?_ ?_
   ·exact sA
   refine(u43_nil 0).use [9] ?_ (qZ0) rfl;refine And.intro ?_ ⟨_,_,⟨rfl,rfl⟩,?_⟩
   ·exact sA
   rw[e0];exact ent_tau [0,1,2,3,4] ⟨qZ0,qZ1,rfl⟩
 ·refine⟨ownB_ok rfl,?_⟩;have e0:t.depthT p m=⟨(0,0),1⟩:=by simp[TD.depthT,hv]
  refine aN ?_ ?_
  ·exact sA
  refine(u43_stop 0 1).use [9] ?_ (qZ0) rfl;refine And.intro ?_ ⟨_,_,⟨rfl,rfl⟩,?_⟩
  ·exact sA
  rw[e0];exact ent_tau [0,1,2,3,4] ⟨qZ0,qZ1,rfl⟩
 ·refine⟨ownB_ok rfl,?_⟩;have hpm: ¬(t.isPl p∧t.isMin m):=fun h=>by rw[inB_iff.2 h.1,inB_iff.2 h.2]at hb;cases hb
  have e0:t.depthT p m=⟨(0,0),2⟩:=by simp[TD.depthT,hv,hpm]
  refine aN ?_ ?_
  ·exact sA
  refine(u43_stop 0 2).use [9] ?_ (qZ0) rfl;refine And.intro ?_ ⟨_,_,⟨rfl,rfl⟩,?_⟩
  ·exact sA
  rw[e0];exact ent_tau [0,1,2,3,4] ⟨qZ0,qZ1,rfl⟩
end Go.Proofs.YthnhlkflkidemaaGreatDoor
/-
 Plain law of serves, part 2.
-/
namespace Srv
open Kuhn
/-! ### The bather before, by the document -/
instance(K:Nat→Int)(a b:Nat):Decidable (befo K a b):=inferInstanceAs (Decidable (_∨_))
theorem brkD_zero{b:SB}(ht:b.Tm)(set:Nat→Bool)(q:Nat→Int)(i:Nat):
  b.brkD set q i=0↔b.ok i (q i).toNat=true∧ ∀k,b.Prv set k i→b.to k+b.sh*dst (q k) (q i)≤b.fr i:=by
 unfold SB.brkD;rw[brk_zero];refine and_congr Iff.rfl ?_;cases ho:bfF b set i b.n with
 |none=>exact⟨fun _ k hk=>(by rw[(prv_iff b set k i).1 hk]at ho;cases ho),fun _=>(by simp[SB.lat,SB.valS])⟩
 |some k=>
  have hk:=(prv_iff b set k i).2 ho;have:=ht k hk.1.1;constructor
  ·intro h k' hk';have e:=(prv_iff b set k' i).1 hk';rw[ho]at e;injection e with e;subst e;have h2:=of_decide_eq_false h;simp only[SB.valS]at h2;omega
  ·intro h;have h2:=h k hk;refine decide_eq_false fun h3=>?_
   simp only[SB.valS]at h3;omega
/-! ### All right plans, by the document -/
/-! ### In which order -/
/-! ### The best one -/
end Srv
/-
 Plain law: sets as signed numbers.
-/
namespace Go.Proofs.YthnhlkflkidemaaGreatDoor
open Go Go.Sy Kuhn
set_option maxRecDepth 100000
theorem shr_zero{S n:Nat}(hS:S<2^n):(S:Int).fdiv (2^n)=0:=by
 have e:(S:Int).fdiv (2^n)=((S/2^n:Nat):Int):=by
  rw[Int.fdiv_eq_ediv_of_nonneg _ (by have:=Nat.pow_pos (n:=n) (show 0<2 by omega);exact_mod_cast Nat.zero_le _)];norm_cast
 rw[e,Nat.div_eq_of_lt hS];rfl
end Go.Proofs.YthnhlkflkidemaaGreatDoor
/-
 Plain law of serves, part 8.
-/
namespace Srv
open Kuhn
/-! ### What the functions tell -/
def SB.chkQ(b:SB)(q:Nat→Int):Option Nat:=(List.range b.n).find? fun i=>decide (b.brkD allB q i≠0)
theorem chkQ_none{b:SB}(ht:b.Tm)(hs:0≤b.sh){q:Nat→Int}(hq:b.Pln q):b.chkQ q=none↔b.RightA allB q:=by
 rw[←rightA_iff ht hs];unfold SB.chkQ;rw[List.find?_eq_none];constructor
 ·intro h;have h0: ∀i,i<b.n→b.brkD allB q i=0:=fun i hi=>by
   have:=h i (List.mem_range.2 hi);simpa using this
  refine⟨fun i hi _=>⟨(q i).toNat,?_,?_⟩,fun i hi _=>((brkD_zero ht allB q i).1 (h0 i hi)).1,fun i k hi _ hk=>((brkD_zero ht allB q i).1 (h0 i hi)).2 k hk⟩
  ·have:=hq i hi;omega
  ·have:=hq i hi;omega
 ·intro H i hi;have hi:=List.mem_range.1 hi;have:=(brkD_zero ht allB q i).2 ⟨H.wet i hi rfl,fun k hk=>H.tim i k hi rfl hk⟩;simp[this]
theorem chkQ_some{b:SB}{q:Nat→Int}{i:Nat}(h:b.chkQ q=some i):i<b.n∧b.brkD allB q i≠0∧ ∀k,k<i→b.brkD allB q k=0:=by
 have h1:=List.mem_range.1 (List.mem_of_find?_eq_some h);have h2:=List.find?_some h;refine⟨h1,by simpa using h2,fun k hk=>Decidable.byContradiction fun hc=>?_⟩;have h3:=find_least (R:=fun a c=>a<c) (T:=k) List.pairwise_lt_range h (List.mem_range.2 (by omega)) (decide_eq_true hc);omega
end Srv
/-
 Contracts of the law package's small functions. (--fast)
-/
namespace Go.Proofs.YthnhlkflkidemaaGreatDoor
open Go Go.Sy Srv Kuhn
set_option maxRecDepth 100000
set_option maxHeartbeats 4000000
attribute [local irreducible] CallP CodeP Ent YieldP
set_option maxHeartbeats 16000000
noncomputable def SD.rightB(s:SD)(m:Nat)(pl:Nat→Int):Bool:=decide ((s.chkT m pl).2.2=4)
theorem t43(s:SD)(bp:Bool)(m cp:Nat)(pl:Nat→Int)(hm:m≤9223372036854775807):CallP Tryz.prog 43 [SA s,.osl bp 6 1 m cp] (HSp s m pl) (Ret (.bool (s.rightB m pl)) (HSp s m pl)):=by
 have c:=t18 s bp m cp pl hm;unfold SD.rightB;obtain⟨X,hX⟩: ∃X,s.chkT m pl=X:=⟨_,rfl⟩;rw[hX]at c⊢;obtain⟨a,b,e⟩:=X;dsimp only at c⊢;refine callR (E:=E) E_ok Tryz.func43 rfl ?_;(repeat' first|exact aq|refine aN ?_ ?_|exact tU);all_goals try exact dd
 refine c.use [0,1,2,3,4,5,6] ?_ (fPp) rfl;(repeat' first|exact aq|refine aN ?_ ?_|exact tU);all_goals try exact dd
 exact ent_tau [0,1,2,3,4,5,6] ⟨fPp,tMm,rfl⟩
def rowU(y:Nat→Int)(k:Nat):List SV:=[.int .u8 (y k)]
def madeP(s:SD)(k:Nat)(y:Nat→Int)(i:Nat):Int:=(if 0<k then y (i%k)else 0).tmod (s.t.nS:Nat)
theorem madeP_rng{s:SD}(hw:1≤s.t.nS){k:Nat}{y:Nat→Int}(hy: ∀j,0≤y j∧y j≤255)(i:Nat):0≤madeP s k y i∧madeP s k y i<(s.t.nS:Nat):=by
 unfold madeP;have h:0≤(if 0<k then y (i%k)else 0):=by
  split
  ·exact(hy _).1
  ·exact Int.le_refl _
 exact⟨Int.tmod_nonneg _ h,Int.tmod_lt_of_pos _ (by omega)⟩
def KL(h:SHeap)(n:Nat)(q:Nat→Int):CE→SHeap→Prop:=fun ce h'=>
 (n=0∧ce= .ret .snil∧h'=h)∨(0<n∧ ∃cap,n≤cap∧cap≤9223372036854775807∧ce= .ret (.slice h.length 1 0 n cap)∧h'=h++[some (.arr 1 n cap (rowI q))])
def HW(s:SD)(k:Nat)(y:Nat→Int):SHeap:=HV s++[some (.roa 1 k (rowU y))]
theorem appL(q:Nat→Int)(m:Nat)(x:Int)(j:Nat)(hj:j<m+1)(e:x=q m):selL (decide (j<m)) (rowI q j) (getOf 1 (splice (repL 1 [SV.int .i64 0]) (0*1) [.int .i64 x]) (0+(j-m)))=rowI q j:=by
 by_cases c:j<m
 ·rw[decide_eq_true c,selL_true]
 ·obtain rfl:j=m:=by omega
  rw[decide_eq_false c,selL_false,Nat.sub_self];exact congrArg (fun x=>[SV.int .i64 x]) e
def zz(k:Nat)(z:Int):Nat:=0+(z.tmod (k:Nat)).toNat
theorem t36(s:SD)(hw:1≤s.t.nS∧s.t.nS≤4)(hn:s.n≤5)(yb:Bool)(k yc:Nat)(y:Nat→Int)(hy: ∀j,0≤y j∧y j≤255)(hk:k≤9223372036854775807):CallP Tryz.prog 36 [SA s,.osl yb 6 1 k yc] (HW s k y) (KL (HW s k y) s.n (madeP s k y)):=by
 unfold KL;refine callK (E:=E) E_ok Tryz.func36 rfl ?_;(repeat' first|exact aq|refine aN ?_ ?_|exact tU);all_goals try exact dd
 refine loopP E_ok [1,2,10] (fun x:Nat×Nat=>match x.1 with
   |0=>[(5,.snil),(11,.int .i64 0)]
   |m+1=>[(5,.slice 8 1 0 (m+1) x.2),(11,.int .i64 (m+1:Nat))])
  (fun x H=>match x.1 with
   |0=>H
   |m+1=>H++[some (.arr 1 (m+1) x.2 (rowI (madeP s k y)))])
  (fun x=>x.1≤s.n∧(0<x.1→x.1≤x.2∧x.2≤9223372036854775807)) (fun x=>s.n-x.1) (0,0) ⟨Nat.zero_le _,fun h=>absurd h (Nat.lt_irrefl 0)⟩ ?_ ?_
 ·exact ent_tau [0,1,2,3,4,5,6,7] ⟨fPp,tMm,rfl⟩
 rintro⟨i,cap⟩ ⟨hi,hcap⟩;dsimp only at hi hcap;cases i with
 |zero=>
  obtain⟨Q,hQ⟩: ∃Q,decide (((k:Nat):Int)>0)=Q:=⟨_,rfl⟩;have hmod:((0:Int)).tmod (k:Nat)=((0%k:Nat):Int):=rfl;have hnS:0<s.t.nS:=by omega
  have hmp:=madeP_rng hw.1 (k:=k) hy 0;(repeat' first|exact aq|refine aN ?_ ?_|exact tU);all_goals try exact dd
  ·intro hc;have hlt:0<s.n:=by
    have:=of_decide_eq_true hc;omega
   cases Q with
   |true=>
    have hk0:0<k:=by
     have:=of_decide_eq_true hQ;omega
    have hml:0%k<k:=Nat.mod_lt _ hk0;have hyb:=hy (zz k 0);have eV:(y (zz k 0)).tmod (s.t.nS:Nat)=madeP s k y 0:=by
     unfold madeP;unfold zz;rw[if_pos hk0,hmod,z1]
    all_goals(repeat' first|exact aq|refine aN ?_ ?_|exact tU)
    all_goals try exact dd
    all_goals intro h2
    all_goals first|((try rw[hQ]at h2);first|exact tFx h2|exact fTx h2)|skip
    all_goals(repeat' first|exact aq|refine aN ?_ ?_|exact tU)
    all_goals try exact dd
    all_goals first
     |(show(-9223372036854775808:Int)≤y (zz k 0);omega)
     |(show y (zz k 0)≤(9223372036854775807:Int);omega)
     |(refine u0 ?_;show zz k 0<k;unfold zz;rw[hmod];omega)
     |(refine u0 ?_;show 0≤((0:Int)).tmod (k:Nat);rw[hmod];omega)
     |(refine u0 ?_;show((0:Int)).tmod (k:Nat)<(k:Nat);rw[hmod];omega)
     |skip
    all_goals first|(show(0+1)*8≤140737488355328;omega)|exact(fun k hk=>by obtain rfl:k=0:=Nat.lt_one_iff.1 hk;rfl)|skip
    intro c5 h51 h52;(repeat' first|exact aq|refine aN ?_ ?_|exact tU);all_goals try exact dd
    refine⟨(0+1,c5),⟨hlt,fun _=>⟨h51,h52⟩⟩,by simp only;omega,?_⟩;refine ent_tau [0,1,2,3,4,5,6,7,9] ⟨?_,tMm,rfl⟩;(repeat' first|exact fp|refine aN ?_ ?_)
    ·intro q hq;obtain rfl:q=0:=Nat.lt_one_iff.1 hq;exact congrArg (fun x=>[SV.int .i64 x]) eV
   |false=>
    have hk0: ¬0<k:=by
     have:=of_decide_eq_false hQ;omega
    have eV:(0:Int).tmod (s.t.nS:Nat)=madeP s k y 0:=by
     unfold madeP;rw[if_neg hk0]
    all_goals(repeat' first|exact aq|refine aN ?_ ?_|exact tU)
    all_goals try exact dd
    all_goals intro h2
    all_goals first|((try rw[hQ]at h2);first|exact tFx h2|exact fTx h2)|skip
    all_goals(repeat' first|exact aq|refine aN ?_ ?_|exact tU)
    all_goals try exact dd
    all_goals first|(show(0+1)*8≤140737488355328;omega)|exact(fun k hk=>by obtain rfl:k=0:=Nat.lt_one_iff.1 hk;rfl)|skip
    intro c5 h51 h52;(repeat' first|exact aq|refine aN ?_ ?_|exact tU);all_goals try exact dd
    refine⟨(0+1,c5),⟨hlt,fun _=>⟨h51,h52⟩⟩,by simp only;omega,?_⟩;refine ent_tau [0,1,2,3,4,5,6,7,9] ⟨?_,tMm,rfl⟩;(repeat' first|exact fp|refine aN ?_ ?_)
    ·intro q hq;obtain rfl:q=0:=Nat.lt_one_iff.1 hq;exact congrArg (fun x=>[SV.int .i64 x]) eV
  ·intro hc;have hn0:0=s.n:=by
    have:=of_decide_eq_false hc;omega
   (repeat' first|exact aq|refine aN ?_ ?_|exact tU);all_goals try exact dd
   refine⟨_,_,Or.inl ⟨hn0.symm,rfl,rfl⟩,?_⟩;exact ent_tau [0,1,2,3,4,5,6] ⟨fPp,tMm,rfl⟩
 |succ i=>
  obtain⟨hc1,hc2⟩:=hcap (by omega);obtain⟨Q,hQ⟩: ∃Q,decide (((k:Nat):Int)>0)=Q:=⟨_,rfl⟩;have hmod:(((i+1:Nat):Int)).tmod (k:Nat)=(((i+1)%k:Nat):Int):=rfl;have hnS:0<s.t.nS:=by omega
  have hmp:=madeP_rng hw.1 (k:=k) hy (i+1);(repeat' first|exact aq|refine aN ?_ ?_|exact tU);all_goals try exact dd
  ·intro hc;have hlt:i+1<s.n:=by
    have:=of_decide_eq_true hc;omega
   cases Q with
   |true=>
    have hk0:0<k:=by
     have:=of_decide_eq_true hQ;omega
    have hml:(i+1)%k<k:=Nat.mod_lt _ hk0;have hyb:=hy (zz k (i+1:Nat));have eV:(y (zz k (i+1:Nat))).tmod (s.t.nS:Nat)=madeP s k y (i+1):=by
     unfold madeP;unfold zz;rw[if_pos hk0,hmod,z1]
    all_goals(repeat' first|exact aq|refine aN ?_ ?_|exact tU)
    all_goals try exact dd
    all_goals intro h2
    all_goals first|((try rw[hQ]at h2);first|exact tFx h2|exact fTx h2)|skip
    all_goals(repeat' first|exact aq|refine aN ?_ ?_|exact tU)
    all_goals try exact dd
    all_goals first
     |(show(-9223372036854775808:Int)≤y (zz k (i+1:Nat));omega)
     |(show y (zz k (i+1:Nat))≤(9223372036854775807:Int);omega)
     |(refine u0 ?_;show zz k (i+1:Nat)<k;unfold zz;rw[hmod];omega)
     |(refine u0 ?_;show 0≤(((i+1:Nat):Int)).tmod (k:Nat);rw[hmod];omega)
     |(refine u0 ?_;show(((i+1:Nat):Int)).tmod (k:Nat)<(k:Nat);rw[hmod];omega)
     |skip
    all_goals first|(show(i+1+1)*8≤140737488355328;omega)|exact(fun k hk=>by obtain rfl:k=0:=Nat.lt_one_iff.1 hk;rfl)|skip
    intro c5 h51 h52;(repeat' first|exact aq|refine aN ?_ ?_|exact tU);all_goals try exact dd
    refine⟨(i+1+1,c5),⟨hlt,fun _=>⟨h51,h52⟩⟩,by simp only;omega,?_⟩;refine ent_tau [0,1,2,3,4,5,6,7,10] ⟨?_,tMm,rfl⟩;(repeat' first|exact fp|refine aN ?_ ?_)
    ·intro q hq;refine(appL (madeP s k y) (i+1) ((y (zz k (i+1:Nat))).tmod (s.t.nS:Nat)) q hq ?_);exact eV
   |false=>
    have hk0: ¬0<k:=by
     have:=of_decide_eq_false hQ;omega
    have eV:(0:Int).tmod (s.t.nS:Nat)=madeP s k y (i+1):=by
     unfold madeP;rw[if_neg hk0]
    all_goals(repeat' first|exact aq|refine aN ?_ ?_|exact tU)
    all_goals try exact dd
    all_goals intro h2
    all_goals first|((try rw[hQ]at h2);first|exact tFx h2|exact fTx h2)|skip
    all_goals(repeat' first|exact aq|refine aN ?_ ?_|exact tU)
    all_goals try exact dd
    all_goals first|(show(i+1+1)*8≤140737488355328;omega)|exact(fun k hk=>by obtain rfl:k=0:=Nat.lt_one_iff.1 hk;rfl)|skip
    intro c5 h51 h52;(repeat' first|exact aq|refine aN ?_ ?_|exact tU);all_goals try exact dd
    refine⟨(i+1+1,c5),⟨hlt,fun _=>⟨h51,h52⟩⟩,by simp only;omega,?_⟩;refine ent_tau [0,1,2,3,4,5,6,7,10] ⟨?_,tMm,rfl⟩;(repeat' first|exact fp|refine aN ?_ ?_)
    ·intro q hq;refine(appL (madeP s k y) (i+1) ((0:Int).tmod (s.t.nS:Nat)) q hq ?_);exact eV
  ·intro hc;have hn0:i+1=s.n:=by
    have:=of_decide_eq_false hc;omega
   (repeat' first|exact aq|refine aN ?_ ?_|exact tU);all_goals try exact dd
   refine⟨_,_,Or.inr ⟨by omega,cap,by omega,hc2,rfl,rfl⟩,?_⟩;rw[←hn0];refine ent_tau [0,1,2,3,4,5,6,8] ⟨?_,tMm,rfl⟩;(repeat' first|exact fp|refine aN ?_ ?_);exact hn0
end Go.Proofs.YthnhlkflkidemaaGreatDoor
/-
 Numbers that are handed to a statement, as a row that is only read.
-/
namespace Go.Sy
open Go Go.ChangeShapes Go.WideShapes Go.ChangeAt Go.RowKit
def intCellsH(kd:IntKind)(n:Nat)(cs:List Value):Prop:= ∃zs:List Int,zs.length=n∧(∀z∈zs,InR kd z)∧cs=zs.map (Value.int kd)
theorem intCellsH.append{kd:IntKind}{n m:Nat}{a b:List Value}(ha:intCellsH kd n a)(hb:intCellsH kd m b):intCellsH kd (n+m) (a++b):=by
 obtain⟨x,h1,h2,rfl⟩:=ha;obtain⟨y,h3,h4,rfl⟩:=hb;refine⟨x++y,by simp[h1,h3],fun z hz=>?_,by simp⟩;rcases List.mem_append.1 hz with h|h
 ·exact h2 z h
 ·exact h4 z h
theorem intCellsH.cut{kd:IntKind}{n m:Nat}{cs:List Value}(hl:cs.length=n+m)(ha:intCellsH kd n ((cs.drop 0).take n))(hb:intCellsH kd m ((cs.drop n).take m)):intCellsH kd (n+m) cs:=by
 have:=ha.append hb;rwa [List.drop_zero,List.take_of_length_le (l:=cs.drop n) (by simp;omega),List.take_append_drop]at this
section
variable {H:Type} {enc:TypeId×Value→H} {P:Program} {w:World} {base:Nat} {sp:Nat→Bool} {held:Bool}
def IntTH(enc:TypeId×Value→H)(P:Program)(w:World)(base:Nat)(sp:Nat→Bool)(held:Bool)(kd:IntKind)(t:TypeId)(n:Nat):Prop:=
 P.cellsOf t=n∧ ∀fuel cs x,DataW.trod enc P w base sp held fuel t cs=some x→intCellsH kd n cs
theorem IntTH.int{kd:IntKind}(hkd: ∀z,Lit.wf (.int kd z)=true→InR kd z){t:TypeId}(ht:P.underlying t=some (.int kd))(hc:P.cellsOf t=1):IntTH enc P w base sp held kd t 1:=by
 refine⟨hc,fun fuel cs x h=>?_⟩;obtain⟨z,rfl,_,hw⟩:=DataW.trod_int ht h;refine⟨[z],rfl,fun y hy=>?_,rfl⟩;simp only[List.mem_singleton]at hy;subst hy;exact hkd _ hw
open Classical in
noncomputable def cellIH(kd:IntKind)(W:World)(a:Nat×Nat)(k:Nat):Int:=
 match W.cell? ⟨a.1,a.2+k,none⟩with
 |some (.int k n)=>if k=kd∧InR kd n then n else 0
 |_=>0
theorem inR_zeroH: ∀kd,InR kd 0
 | .i8| .i16| .i32| .i64| .u8| .u16| .u32| .u64=>by simp[InR]
theorem cellI_okH(kd:IntKind)(W:World)(a:Nat×Nat)(k:Nat):InR kd (cellIH kd W a k):=by
 unfold cellIH;split
 ·split
  ·rename_i h;exact h.2
  ·exact inR_zeroH kd
 ·exact inR_zeroH kd
theorem sliceOpenH{kd:IntKind}{t e:TypeId}{sz:Nat}{v:Value}{d:DataW H}{ps:List MemPlace}{r:Reach}{b0:Nat}(ht:P.underlying t=some (.slice e))(he:IntTH enc P w base sp held kd e sz)
  (hval:Cell.okWide P w r b0 t v) {fuel:Nat} (h:DataW.trod enc P w base sp held fuel t [v]=some (d,ps)):
  v= .slice none 0 0∨ ∃(a:Nat×Nat) (n c:Nat),v= .slice (some ⟨a.1,a.2,none⟩) n c∧n≤c∧(c:Int)≤9223372036854775807∧ ∃cs T fz,w.heap[a.1]?=some (.cells cs T fz)∧
   ∀k,k<n→ ∀j,j<sz→cs[a.2+(k*sz+j)]?=some (.int kd (cellIH kd w a (k*sz+j))):=by
 rcases DataW.trod_slice ht h with⟨h1,_⟩|⟨a,len,cap,elems,rest,n,rfl,h1,_,_,hlc,_,hel,hat,_,_⟩
 ·left
  simpa using h1
 ·right
  simp only[List.cons.injEq,and_true]at h1
  subst h1
  have hv:len≤cap∧(cap:Int)≤IntKind.i64.max∧w.has P r b0 a e cap:=by
   unfold Cell.okWide at hval
   rw[ht]at hval
   unfold Cell.ok at hval
   rw[ht]at hval
   exact hval
  obtain⟨_,hc2,_,hsp,row,cells,hsh,_⟩:=hv
  unfold World.shape? at hsh
  cases hh:w.heap[a.block]? with
  |none=>rw[hh]at hsh;cases hsh
  |some o=>
   rw[hh]at hsh
   cases o with
   |map _ _|loop _|chan _|pending _ _|view _ _|number _|stringIter _ _|mapIter _ _ _ _|deferred _|coro _|finalizers _=>cases hsh
   |cells cs T fz=>
    obtain⟨ab,ao,asp⟩:=a
    simp only at hsp hh
    subst hsp
    refine⟨(ab,ao),len,cap,rfl,hlc,by simpa[IntKind.max,IntKind.signed,IntKind.bits]using hc2,cs,T,fz,hh,fun k hk j hj=>?_⟩
    have h2:=hat k hk
    rw[List.getElem?_eq_getElem (by omega)]at h2
    obtain⟨ys,h3,h4⟩:=Option.bind_eq_some_iff.1 h2
    rw[he.1]at h3
    obtain⟨zs,hz,hr,rfl⟩:=he.2 _ _ _ h4
    unfold World.cells? at h3
    split at h3
    ·obtain⟨_,h6⟩:=mapM_get h3
     have h7:=h6 j j (by simp[hj])
     rw[List.getElem?_map,List.getElem?_eq_getElem (by omega)]at h7
     have hin := hr (zs[j]'(by omega)) (List.getElem_mem _)
     have e1 : w.cell? ⟨ab, ao + (k * sz + j), none⟩ = some (.int kd (zs[j]'(by omega))) := by
      simpa[addr_add,he.1,Nat.add_assoc]using h7
     have e2 : cellIH kd w (ab, ao) (k * sz + j) = zs[j]'(by omega) := by
      unfold cellIH
      rw[e1]
      simp only
      rw[if_pos ⟨rfl,hin⟩]
     rw[e2]
     simpa[World.cell?,hh]using e1
    ·cases h3
end
end Go.Sy
namespace Go.Proofs.YthnhlkflkidemaaGreatDoor
open Go Go.Sy Go.ChangeShapes Go.WideShapes Go.ChangeAt Go.RowKit
set_option maxRecDepth 100000
section
variable {H:Type} {enc:TypeId×Value→H} {w:World} {base:Nat} {sp:Nat→Bool} {held:Bool}
theorem wf8(z:Int)(h:Lit.wf (.int .u8 z)=true):InR .u8 z:=by
 simpa[Lit.wf,InR,IntKind.min,IntKind.max,IntKind.signed,IntKind.bits]using h
theorem it5H:IntTH enc Tryz.prog w base sp held .u8 5 1:=IntTH.int wf8 Tryz.underlying5 (by kernel_rfl)
theorem partOpenH{kd:IntKind}{t e:TypeId}{sz:Nat}{v:Value}{d:DataW H}{ps:List MemPlace}{r:Reach}{b0:Nat}(ht:Tryz.prog.underlying t=some (.slice e))(he:IntTH enc Tryz.prog w base sp held kd e sz)
  (h0: ∃cs T fz,w.heap[0]?=some (.cells cs T fz)) (hval:Cell.okWide Tryz.prog w r b0 t v) {fuel:Nat} (h:DataW.trod enc Tryz.prog w base sp held fuel t [v]=some (d,ps)):
  ∃(b:Bool) (a:Nat×Nat) (n c:Nat),(b=false→n=0)∧(n≤c∧c≤9223372036854775807)∧n≤9223372036854775807∧(∀(η:Nam) i,η i=some a→den η (.osl b i sz n c)=some v)∧ ∃cs T fz,w.heap[a.1]?=some (.cells cs T fz)∧ ∀k,k<n→ ∀j,j<sz→cs[a.2+(k*sz+j)]?=some (.int kd (cellIH kd w a (k*sz+j))):=by
 rcases sliceOpenH ht he hval h with rfl|⟨a,n,c,rfl,h3,h4,cs,T,fz,h1,h2⟩
 ·obtain⟨cs,T,fz,h1⟩:=h0
  exact⟨false,(0,0),0,0,fun _=>rfl,by omega,by omega,fun η i _=>by simp[den],cs,T,fz,h1,fun k hk=>by omega⟩
 ·exact⟨true,a,n,c,fun q=>Bool.noConfusion q,by omega,by omega,fun η i hi=>by simp[den,hi],cs,T,fz,h1,h2⟩
structure NumsInH(kd:IntKind)(w:World)(v:Value)(n:Nat)(p:Nat→Int)(b:Bool)(c:Nat)(a:Nat×Nat):Prop where
 len:n≤9223372036854775807
 rng: ∀k,InR kd (p k)
 den: ∀(η:Nam) i,η i=some a→den η (.osl b i 1 n c)=some v
 row: ∀(η:Nam) F,(SObj.roa 1 n fun k=>[.int kd (p k)]).holds η a F w
theorem numsOpenH{kd:IntKind}{t e:TypeId}{v:Value}{d:DataW H}{ps:List MemPlace}{r:Reach}{b0:Nat}(ht:Tryz.prog.underlying t=some (.slice e))(he:IntTH enc Tryz.prog w base sp held kd e 1)
  (h0: ∃cs T fz,w.heap[0]?=some (.cells cs T fz)) (hval:Cell.okWide Tryz.prog w r b0 t v) {fuel:Nat} (h:DataW.trod enc Tryz.prog w base sp held fuel t [v]=some (d,ps)):
  ∃n p b c a,NumsInH kd w v n p b c a:=by
 obtain⟨b,a,n,c,_,_,hl,hd,cs,T,fz,h1,h2⟩:=partOpenH ht he h0 hval h
 refine⟨n,fun k=>cellIH kd w a k,b,c,a,hl,fun k=>cellI_okH _ _ _ _,hd,fun η F=>⟨cs,T,fz,h1,fun k hk=>⟨_,rfl,rfl,fun j v hj=>?_⟩⟩⟩
 match j,hj with
 |0,hj=>
  cases hj
  have:=h2 k hk 0 (by omega)
  simpa using this
theorem numsOpenVH{kd:IntKind}{t e:TypeId}{v:Value}{d:DataW H}{ps:List MemPlace}{r:Reach}{b0:Nat}(ht:Tryz.prog.underlying t=some (.slice e))(he:IntTH enc Tryz.prog w base sp held kd e 1)
  (h0: ∃cs T fz,w.heap[0]?=some (.cells cs T fz)) (hval:Value.okWide Tryz.prog w r b0 t v) (h:DataW.Trod enc Tryz.prog w base sp held t v d ps): ∃n p b c a,NumsInH kd w v n p b c a:=by
 unfold Value.okWide at hval;rw[ht]at hval;obtain⟨fuel,h⟩:=h;have hval:Cell.okWide Tryz.prog w r b0 t v:=hval;have e1:v.cells.toList=[v]:=by
  have hq:=hval;unfold Cell.okWide at hq;rw[ht]at hq;unfold Cell.ok at hq;rw[ht]at hq;cases v<;>first|rfl|exact hq.elim
 rw[e1]at h;exact numsOpenH ht he h0 hval h
theorem satHSU{w:World}{v v1:Value}{s:SD}{a0 a1 a2 a3 b0:Nat×Nat}{kd:IntKind}{k c:Nat}{p:Nat→Int}{b:Bool}(h:ServeIn w v s a0 a1 a2 a3)(hL:laidMetH Tryz.prog Rows.serveDropRow.laid w)(hn:NumsInH kd w v1 k p b c b0):
  Sat (fun j=>[a0,a1,a2,((1:Nat),(0:Nat)),(0,0),a3,b0][j]?) (fun _ _=>False) (HS s++[some (.roa 1 k fun j=>[.int kd (p j)])]) w (fun _=>False) w:=by
 refine satRo _ rfl ?_ ?_
 ·intro i x hx;match i,hx with
  |0,hx=>cases hx;exact⟨_,rfl,rfl⟩
  |1,hx=>cases hx;exact⟨_,rfl,rfl⟩
  |2,hx=>cases hx;exact⟨_,rfl,rfl⟩
  |3,hx=>cases hx;exact⟨_,rfl,rfl⟩
  |4,hx=>cases hx;exact⟨_,rfl,rfl⟩
  |5,hx=>cases hx;exact⟨_,rfl,rfl⟩
  |6,hx=>cases hx;exact⟨_,rfl,rfl⟩
 ·intro i o a ho ha;match i,ho,ha with
  |0,ho,ha=>cases ho;cases ha;exact h.m _ _
  |1,ho,ha=>cases ho;cases ha;exact h.s' _ _
  |2,ho,ha=>cases ho;cases ha;exact h.l _ _
  |3,ho,ha=>cases ho;cases ha;exact glob_holds (tabDone hL) gDone
  |4,ho,ha=>cases ho;cases ha;exact glob_holds (tabDb hL) gDb
  |5,ho,ha=>cases ho;cases ha;exact h.b _ _
  |6,ho,ha=>cases ho;cases ha;exact hn.row _ _
end
end Go.Proofs.YthnhlkflkidemaaGreatDoor
