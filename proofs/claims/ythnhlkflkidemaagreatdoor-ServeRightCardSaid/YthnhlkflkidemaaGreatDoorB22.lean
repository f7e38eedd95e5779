/-
  Parts: TiB4c, TiB6.
-/
import Derived.Test.YthnhlkflkidemaaGreatDoorB21
import Derived.Test.YthnhlkflkidemaaGreatDoorB17
import Derived.Test.YthnhlkflkidemaaGreatDoorB1
set_option linter.unusedVariables false
set_option linter.unusedSimpArgs false
/-
 Contracts: a tide is opened; the question has captured 3 variables.
-/
namespace Go.Proofs.YthnhlkflkidemaaGreatDoor
open Go Go.Sy
set_option maxRecDepth 100000
set_option maxHeartbeats 4000000
attribute [local irreducible] CallP CodeP Ent YieldP
set_option maxHeartbeats 800000
noncomputable def B44_3(t:TD)(c0 c1 c2:Int):SHeap:=[some (.roa 3 t.nM (row3 t.mi t.mlo t.mhi)),some (.roa 2 t.nS (row2 t.slo t.shi)),some (.roa 4 t.nL (row4 t.lp t.lm t.llo t.lhi)),some (.roc [.int .i64 c0]),some (.roc [.int .i64 c1]),some (.roc [.int .i64 c2])]
theorem u44_3(t:TD)(c0 c1 c2:Int)(f:Nat)(hf:f=191∨f=191∨f=191)(b:Bool)
  (his:t.Valid→CallP Tryz.prog f [.ptr 0 0,.ptr 5 0,.ptr 6 0,.ptr 7 0] (t.shore++[some (.roc [.int .i64 c0]),some (.roc [.int .i64 c1]),some (.roc [.int .i64 c2])]) (Ret (.bool b) (t.shore++[some (.roc [.int .i64 c0]),some (.roc [.int .i64 c1]),some (.roc [.int .i64 c2])]))):
  CallP Tryz.prog 98 [t.A,.fn (.func f) [] [.ptr 3 0,.ptr 4 0,.ptr 5 0]] (B44_3 t c0 c1 c2) (K44 t b (B44_3 t c0 c1 c2) 6 7):=by
 refine callK (E:=E) E_ok Tryz.func98 rfl ?_
 refine aN ?_ ?_
 ·exact sA
 refine(u90 _ _ _).use [] ?_ (qZ0) rfl
 refine aN ?_ ?_
 ·exact sA
 refine And.intro (fun h1=>?_) (fun h1=>?_)
 ·refine(u90 _ _ _).use [] ?_ (qZ0) rfl
  refine aN ?_ ?_
  ·exact sA
  refine must (fun hb=>?_) (fun hb=>?_)
  ·-- the lists are as long as they may be
   have hb':(2≤t.nM∧t.nM≤4)∧(1≤t.nS∧t.nS≤4)∧t.nL≤6:=by
    simp[inB,gB,wB]at hb h1
    omega
   obtain⟨hM,hS,hL⟩:=hb'
   refine aN ?_ ?_
   ·exact sA
   refine loopP E_ok [0,1,2,5,31,32] (fun i:Nat=>[(33,.int .i64 i)]) (fun _ H=>H) (fun i=>i≤t.nM∧ ∀j,j<i→t.markOk j) (fun i=>t.nM-i) 0 ⟨Nat.zero_le _,fun j h=>by omega⟩ ?_ ?_
   ·exact ent_tau [0,1,2,3,4,5,6] ⟨qZ0,qZ1,rfl⟩
   ·rintro i ⟨hi,hall⟩
    refine And.intro ?_ (And.intro (fun hlt=>?_) (fun hlt=>?_))
    ·exact sA
    ·have hlt':i<t.nM:=by simpa using hlt
     have ei:(0+(i:Int).toNat)=i:=by omega
     have ei':(0+((i:Int)-1).toNat)=i-1:=by omega
     refine aN ?_ ?_
     ·simp[AllP,under,gB,wB,inR_iff,IntKind.bits]
      omega
     rw[ei]
     refine drawQ E_ok [6,7] pl98_6 (by kernel_rfl) ?_
     refine And.intro (And.intro ?_ ?_) trivial
     ·exact sA
     refine(u90 _ _ _).use [] ?_ (qZ0) rfl
     refine And.intro (And.intro ?_ (And.intro (fun h2=>?_) (fun h2=>?_))) trivial
     ·exact sA
     ·refine(u95 _ _).use [] ?_ (qZ0) rfl
      refine And.intro (And.intro ?_ ?_) trivial
      ·have hp:=fun h=>hall (i-1) h
       simp only[TD.markOk]at hp
       simp[inB,gB,wB]at h2
       simp[AllP,under,gB,wB,inR_iff,IntKind.bits,ei',inB,hiB]
       omega
      ·refine must (fun hb=>?_) (fun hb=>?_)
       ·refine aN ?_ ?_
        ·exact sA
        refine aN ?_ ?_
        ·exact rfl
        refine And.intro ?_ ⟨i+1,⟨hlt',fun j hj=>?_⟩,by omega,?_⟩
        ·simp[AllP,under,gB,wB,inR_iff,IntKind.bits]
         omega
        ·rcases Nat.lt_or_ge j i with hji|hji
         ·exact hall j hji
         ·have:j=i:=by omega
          subst this
          rw[ei']at hb
          simp[inB,hiB,gB,wB]at h2 hb
          simp only[TD.markOk]
          omega
        ·exact ent_tau [0,1,2,3,4,5,6] ⟨qZ0,qZ1,rfl⟩
       ·refine aN ?_ ?_
        ·exact sA
        refine aN ?_ ?_
        ·exact rfl
        refine And.intro trivial ?_
        refine And.intro ?_ ⟨_,_,.inr (.inl ⟨fun hv=>?_,rfl,rfl⟩),?_⟩
        ·exact sA
        ·have hm:=hv.2.2.2.1 i hlt'
         simp only[TD.markOk]at hm
         rw[ei']at hb
         simp[inB,hiB,gB,wB]at h2 hb
         omega
        ·exact ent_tau [0,1,2,3,4,5] ⟨qZ0,qZ1,rfl⟩
     ·refine And.intro (And.intro ?_ ?_) trivial
      ·simp[AllP,under,gB,wB,inR_iff,IntKind.bits]
       simpa[gB,wB]using h2
      ·have h2':inB (t.mi i) 0 240=false:=by simpa[gB,wB]using h2
       refine must (fun hb=>?_) (fun hb=>?_)
       ·simp[h2']at hb
       ·refine aN ?_ ?_
        ·exact sA
        refine aN ?_ ?_
        ·exact rfl
        refine And.intro trivial ?_
        refine And.intro ?_ ⟨_,_,.inr (.inl ⟨fun hv=>?_,rfl,rfl⟩),?_⟩
        ·exact sA
        ·have hm:=hv.2.2.2.1 i hlt'
         simp only[TD.markOk]at hm
         simp[inB,gB,wB]at h2
         omega
        ·exact ent_tau [0,1,2,3,4,5] ⟨qZ0,qZ1,rfl⟩
    ·have hiM:i=t.nM:=by
      have: ¬(i<t.nM):=by simpa using hlt
      omega
     subst hiM
     refine aN ?_ ?_
     ·exact sA
     refine And.intro trivial ?_
     refine⟨t.F,?_⟩
     refine aN ?_ ?_
     ·exact sA
     refine loopP E_ok [0,1,2,5,8,71,72] (fun i:Nat=>[(73,.int .i64 i)]) (fun _ H=>H) (fun i=>i≤t.nS∧ ∀j,j<i→t.sandOk j) (fun i=>t.nS-i) 0 ⟨Nat.zero_le _,fun j h=>by omega⟩ ?_ ?_
     ·exact ent_tau [0,1,2,3,4,5,6,7,8] ⟨qZ0,qZ1,rfl⟩
     ·rintro i ⟨hi,hsand⟩
      refine And.intro ?_ (And.intro (fun hlt2=>?_) (fun hlt2=>?_))
      ·exact sA
      ·have hlt':i<t.nS:=by simpa using hlt2
       have ei:(0+(i:Int).toNat)=i:=by omega
       refine aN ?_ ?_
       ·simp[AllP,under,gB,wB,inR_iff,IntKind.bits]
        omega
       rw[ei]
       refine(u95 _ _).use [] ?_ (qZ0) rfl
       refine aN ?_ ?_
       ·exact sA
       refine must (fun hb=>?_) (fun hb=>?_)
       ·refine And.intro ?_ ⟨i+1,⟨hlt',fun j hj=>?_⟩,by omega,?_⟩
        ·simp[AllP,under,gB,wB,inR_iff,IntKind.bits]
         omega
        ·rcases Nat.lt_or_ge j i with hji|hji
         ·exact hsand j hji
         ·have:j=i:=by omega
          subst this
          simp[hiB]at hb
          simp only[TD.sandOk]
          omega
        ·exact ent_tau [0,1,2,3,4,5,6,7,8] ⟨qZ0,qZ1,rfl⟩
       ·refine aN ?_ ?_
        ·exact sA
        refine And.intro ?_ ⟨_,_,.inr (.inl ⟨fun hv=>?_,rfl,rfl⟩),?_⟩
        ·exact sA
        ·have hm:=hv.2.2.2.2.1 i hlt'
         simp only[TD.sandOk]at hm
         simp[hiB]at hb
         omega
        ·exact ent_tau [0,1,2,3,4,5] ⟨qZ0,qZ1,rfl⟩
      ·have hiS:i=t.nS:=by
        have: ¬(i<t.nS):=by simpa using hlt2
        omega
       subst hiS
       refine aN ?_ ?_
       ·exact sA
       refine And.intro trivial ?_
       refine loopP E_ok [0,1,8,83,84] (fun i:Nat=>[(85,.int .i64 i)]) (fun _ H=>H) (fun i=>i≤t.nL∧ ∀j,j<i→t.lookOk j) (fun i=>t.nL-i) 0 ⟨Nat.zero_le _,fun j h=>by omega⟩ ?_ ?_
       ·exact ent_tau [0,1,2,3,4,5,6,7,8] ⟨qZ0,qZ1,rfl⟩
       ·rintro i ⟨hi,hlook⟩
        refine And.intro ?_ (And.intro (fun hlt3=>?_) (fun hlt3=>?_))
        ·exact sA
        ·have hlt':i<t.nL:=by simpa using hlt3
         have ei:(0+(i:Int).toNat)=i:=by omega
         refine aN ?_ ?_
         ·simp[AllP,under,gB,wB,inR_iff,IntKind.bits]
          omega
         rw[ei]
         refine(u46 t (by omega) (t.lp i)).use [8,0,1,2,7] ?_ (qZ0) rfl
         refine And.intro ?_ (And.intro (fun h6=>?_) (fun h6=>?_))
         ·exact sA
         ·have h6':inB (t.lp i) 0 (t.nS-1)=true:=by simpa[gB,wB]using h6
          refine(u57 t (by omega) (by omega) (t.lm i)).use [8,0,1,2,7] ?_ (qZ0) rfl
          refine And.intro ?_ (And.intro (fun h7=>?_) (fun h7=>?_))
          ·exact sA
          ·have h7':inB (t.lm i) (t.mi 0) (t.mi (t.nM-1))=true:=by simpa[gB,wB,h6']using h7
           refine(u96 _ _).use [] ?_ (qZ0) rfl
           refine aN ?_ ?_
           ·exact sA
           refine must (fun hb=>?_) (fun hb=>?_)
           ·refine And.intro ?_ ⟨i+1,⟨hlt',fun j hj=>?_⟩,by omega,?_⟩
            ·simp[AllP,under,gB,wB,inR_iff,IntKind.bits]
             omega
            ·rcases Nat.lt_or_ge j i with hji|hji
             ·exact hlook j hji
             ·have:j=i:=by omega
              subst this
              simp[inB,hiB,gB,wB]at hb h6' h7'
              simp only[TD.lookOk]
              omega
            ·exact ent_tau [0,1,2,3,4,5,6,7,8] ⟨qZ0,qZ1,rfl⟩
           ·refine aN ?_ ?_
            ·exact sA
            refine And.intro ?_ ⟨_,_,.inr (.inl ⟨fun hv=>?_,rfl,rfl⟩),?_⟩
            ·exact sA
            ·have hm:=hv.2.2.2.2.2 i hlt'
             simp only[TD.lookOk]at hm
             simp[inB,hiB,gB,wB,h6',h7']at hb h6' h7'
             omega
            ·exact ent_tau [0,1,2,3,4,5] ⟨qZ0,qZ1,rfl⟩
          ·have h7':inB (t.lm i) (t.mi 0) (t.mi (t.nM-1))=false:=by simpa[gB,wB,h6']using h7
           refine aN ?_ ?_
           ·simp[AllP,under,gB,wB,inR_iff,IntKind.bits]
            simp[h6',h7']
           refine must (fun hb=>?_) (fun hb=>?_)
           ·simp[h6',h7']at hb
           ·refine aN ?_ ?_
            ·exact sA
            refine And.intro ?_ ⟨_,_,.inr (.inl ⟨fun hv=>?_,rfl,rfl⟩),?_⟩
            ·exact sA
            ·have hm:=hv.2.2.2.2.2 i hlt'
             simp only[TD.lookOk]at hm
             simp[inB,hiB,gB,wB]at h6' h7'
             omega
            ·exact ent_tau [0,1,2,3,4,5] ⟨qZ0,qZ1,rfl⟩
         ·have h6':inB (t.lp i) 0 (t.nS-1)=false:=by simpa[gB,wB]using h6
          refine And.intro ?_ (And.intro (fun h7=>?_) (fun h7=>?_))
          ·simp[AllP,under,gB,wB,inR_iff,IntKind.bits]
           exact h6'
          ·simp[gB,wB,h6']at h7
          ·refine aN ?_ ?_
           ·exact sA
           refine must (fun hb=>?_) (fun hb=>?_)
           ·simp[h6']at hb
           ·refine aN ?_ ?_
            ·exact sA
            refine And.intro ?_ ⟨_,_,.inr (.inl ⟨fun hv=>?_,rfl,rfl⟩),?_⟩
            ·exact sA
            ·have hm:=hv.2.2.2.2.2 i hlt'
             simp only[TD.lookOk]at hm
             simp[inB,hiB,gB,wB]at h6'
             omega
            ·exact ent_tau [0,1,2,3,4,5] ⟨qZ0,qZ1,rfl⟩
        ·have hiL:i=t.nL:=by
          have: ¬(i<t.nL):=by simpa using hlt3
          omega
         subst hiL
         have hv:t.Valid:=⟨hM,hS,hL,hall,hsand,hlook⟩
         refine aN ?_ ?_
         ·exact sA
         rcases hf with rfl|rfl|rfl
         ·refine aN ?_ ?_
          ·exact sA
          refine(his hv).use [8,0,1,2,7,3,4,5] ?_ (qZ0) rfl
          refine aN ?_ ?_
          ·exact sA
          refine must (fun hb=>?_) (fun hb=>?_)
          ·refine And.intro ?_ ⟨_,_,.inl ⟨hv,hb,rfl,rfl⟩,?_⟩
           ·exact sA
           exact ent_tau [0,1,2,3,4,5,8,7] ⟨qZ0,qZ1,rfl⟩
          ·refine And.intro ?_ ⟨_,_,.inr (.inr ⟨hv,hb,rfl,rfl⟩),?_⟩
           ·exact sA
           exact ent_tau [0,1,2,3,4,5] ⟨qZ0,qZ1,rfl⟩
         ·refine aN ?_ ?_
          ·exact sA
          refine(his hv).use [8,0,1,2,7,3,4,5] ?_ (qZ0) rfl
          refine aN ?_ ?_
          ·exact sA
          refine must (fun hb=>?_) (fun hb=>?_)
          ·refine And.intro ?_ ⟨_,_,.inl ⟨hv,hb,rfl,rfl⟩,?_⟩
           ·exact sA
           exact ent_tau [0,1,2,3,4,5,8,7] ⟨qZ0,qZ1,rfl⟩
          ·refine And.intro ?_ ⟨_,_,.inr (.inr ⟨hv,hb,rfl,rfl⟩),?_⟩
           ·exact sA
           exact ent_tau [0,1,2,3,4,5] ⟨qZ0,qZ1,rfl⟩
         ·refine aN ?_ ?_
          ·exact sA
          refine(his hv).use [8,0,1,2,7,3,4,5] ?_ (qZ0) rfl
          refine aN ?_ ?_
          ·exact sA
          refine must (fun hb=>?_) (fun hb=>?_)
          ·refine And.intro ?_ ⟨_,_,.inl ⟨hv,hb,rfl,rfl⟩,?_⟩
           ·exact sA
           exact ent_tau [0,1,2,3,4,5,8,7] ⟨qZ0,qZ1,rfl⟩
          ·refine And.intro ?_ ⟨_,_,.inr (.inr ⟨hv,hb,rfl,rfl⟩),?_⟩
           ·exact sA
           exact ent_tau [0,1,2,3,4,5] ⟨qZ0,qZ1,rfl⟩
  ·refine And.intro ?_ ⟨_,_,.inr (.inl ⟨fun hv=>?_,rfl,rfl⟩),?_⟩
   ·exact sA
   ·have h3:=hv.1
    have h4:=hv.2.1
    have h5:=hv.2.2.1
    simp[inB,gB,wB]at hb h1
    omega
   ·exact ent_tau [0,1,2,3,4,5] ⟨qZ0,qZ1,rfl⟩
 ·have h1':inB (t.nM:Int) 2 4=false:=by simpa[gB,wB]using h1
  refine aN ?_ ?_
  ·simp[AllP,under,gB,wB,inR_iff,IntKind.bits]
   exact h1'
  refine must (fun hb=>?_) (fun hb=>?_)
  ·simp[h1']at hb
  ·refine And.intro ?_ ⟨_,_,.inr (.inl ⟨fun hv=>?_,rfl,rfl⟩),?_⟩
   ·exact sA
   ·have h3:=hv.1
    simp[inB,gB,wB]at h1
    omega
   ·exact ent_tau [0,1,2,3,4,5] ⟨qZ0,qZ1,rfl⟩
theorem u117(x:Int)(h0:0≤x)(h1:x≤18446744073709551615):CallP Tryz.prog 167 [.int .u64 x] [] (Ret (.int .i64 (Lib.bitLen x.toNat)) []):=
 callP_of_calls (fun _ => rfl) (fun _ => rfl) fun W => (bits_Len64 x W h0 h1).mono fun e w' h => ⟨h.1, by rw [h.2]; exact Nat.le_refl _, fun b _ => by rw [h.2], by rw [h.2]; exact .refl _⟩
def fewOk(lo m:Nat):Bool:=
 let x:Int:=((m*2^lo:Nat):Int)
 let i:=shr (w64 (bitOp .and .u64 x (w64 (0-x))*285870213051353865)) 58
 (decide (0≤i)&&decide (i<64))&&(decide (tz64 x=lo+(if m%2=1 then 0 else if m%4=2 then 1 else 2))&&(decide (oc64 x=(if m=1∨m=2∨m=4 then 1 else if m=7 then 3 else 2))&&decide (Lib.bitLen (m*2^lo)=lo+(if 4≤m then 3 else if 2≤m then 2 else 1))))
theorem few_all: ∀lo,lo<61→ ∀m,m<8→0<m→fewOk lo m=true:=by decide
def isFew(x:Int):Prop:= ∃lo m:Nat,lo<61∧0<m∧m<8∧x=((m*2^lo:Nat):Int)
theorem few_facts{x:Int}(h:isFew x):x≠0∧(0≤x∧x≤18446744073709551615)∧(0≤shr (w64 (bitOp .and .u64 x (w64 (0-x))*285870213051353865)) 58∧shr (w64 (bitOp .and .u64 x (w64 (0-x))*285870213051353865)) 58<64)∧
  (0≤tz64 x∧tz64 x≤Lib.bitLen x.toNat-1∧(Lib.bitLen x.toNat:Int)-1≤63)∧1≤oc64 x∧oc64 x≤3:=by
 obtain⟨lo,m,h1,h2,h3,rfl⟩:=h;have hf:=few_all lo h1 m h3 h2;simp only[fewOk,Bool.and_eq_true,decide_eq_true_eq]at hf;obtain⟨⟨a1,a2⟩,a3,a4,a5⟩:=hf;have hp:0<2^lo:=Nat.pow_pos (by omega);have hp2:2^lo≤2^60:=Nat.pow_le_pow_right (by omega) (by omega);have hm:m*2^lo≤7*2^60:=Nat.mul_le_mul (by omega) hp2;have hm0:0<m*2^lo:=Nat.mul_pos h2 hp;refine⟨by omega,by omega,⟨a1,a2⟩,?_,?_⟩
 ·rw[a3,Int.toNat_natCast,a5];refine⟨?_,?_,?_⟩<;>(repeat' split)<;>omega
 ·rw[a4];repeat' split
  all_goals omega
theorem setF_few{t:TD}{h:Nat→Int}{p:Nat}(h0:0≤t.slo p): ∀c:Nat,∃m:Nat,m<2^c∧t.setF h p c=((m*2^(t.slo p).toNat:Nat):Int)
 |0=>⟨0,by simp,by simp[TD.setF]⟩
 |c+1=>by
  obtain⟨m,h1,h2⟩:=setF_few h0 (t:=t) (h:=h) (p:=p) c;have e:(t.slo p+c).toNat=(t.slo p).toNat+c:=by omega
  simp only[TD.setF,e];split
  ·refine⟨m+2^c,by rw[Nat.pow_succ];omega,?_⟩;rw[h2,Nat.add_mul,←Nat.pow_add,Nat.add_comm c];push_cast;rfl
  ·exact⟨m,by rw[Nat.pow_succ];omega,by rw[h2];simp⟩
theorem set_few{t:TD}(hv:t.Valid){h:Nat→Int}{p:Nat}(hp:p<t.nS)(hn:t.set h p≠0):isFew (t.set h p):=by
 have hs:=hv.2.2.2.2.1 p hp;simp only[TD.sandOk]at hs;obtain⟨m,h1,h2⟩:=setF_few (t:=t) (h:=h) hs.1.1 (t.shi p-t.slo p+1).toNat;have h3:2^(t.shi p-t.slo p+1).toNat≤2^3:=Nat.pow_le_pow_right (by omega) (by omega);refine⟨(t.slo p).toNat,m,by omega,?_,by omega,h2⟩;rcases Nat.eq_zero_or_pos m with rfl|hm
 ·simp only[TD.set,h2]at hn;simp at hn
 ·exact hm
def fullTr(t:TD)(x:Tr):Prop:=goodTr t x∧ ∀p,p<t.nS→isFew (x.s p)
theorem tls_full{t:TD}(hv:t.Valid): ∀(r:Nat) (h:Nat→Int),r≤t.nM→okH h→ ∀x∈t.tls r h,fullTr t x
 |0,h,_,hh,x,hx=>by
  simp only[TD.tls]at hx;split at hx
  ·rename_i hall;simp at hx;subst hx;refine⟨good_tr hv hh,fun p hp=>?_⟩;have:=allB_iff.1 hall p hp;simp only[TD.tr,hp,if_true];exact set_few hv hp (by simpa using this)
  ·simp at hx
 |r+1,h,hr,hh,x,hx=>by
  simp only[TD.tls]at hx;obtain⟨j,hj,hx⟩:=catF_mem hx;have hm:=hv.marks (i:=t.nM-(r+1)) (by omega);simp only[TD.markOk]at hm;exact tls_full hv r _ (by omega) (okH_upd hh (by omega)) x hx
theorem all_full{t:TD}(hv:t.Valid): ∀x∈t.all,fullTr t x:=tls_full hv t.nM (fun _=>0) (Nat.le_refl _) (fun i=>⟨Int.le_refl _,by show(0:Int)≤60;decide⟩)
def loE(x:Int):Int:=tz64 x
def hiE(x:Int):Int:=Lib.bitLen x.toNat-1
theorem u86(x:Int)(hx:isFew x):CallP Tryz.prog 104 [.int .u64 x] [some db] (Ret (.tup [.int .i64 (loE x),.int .i64 (hiE x)]) [some db]):=by
 obtain⟨f1,f2,f3,f4,f5⟩:=few_facts hx;refine callR (E:=E) E_ok Tryz.func104 rfl ?_;refine aN ?_ ?_
 ·exact sA
 refine(u116 x f1 f3.1 f3.2).use [0] ?_ (qZ0) rfl;refine aN ?_ ?_
 ·exact sA
 refine(u117 x f2.1 f2.2).use [] ?_ (qZ0) rfl;refine aN ?_ ?_
 ·simp[AllP,under,gB,wB,inR_iff,IntKind.bits];omega
 exact ent_tau [0] ⟨qZ0,qZ1,rfl⟩
end Go.Proofs.YthnhlkflkidemaaGreatDoor
