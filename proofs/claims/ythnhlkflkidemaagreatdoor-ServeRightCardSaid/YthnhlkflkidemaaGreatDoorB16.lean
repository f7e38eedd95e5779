/-
  Parts: Plans, TiA1, TiA2, TiA3, TiA4, TiA6, TiA7.
-/
import Derived.Test.YthnhlkflkidemaaGreatDoorB12
import Derived.Test.YthnhlkflkidemaaGreatDoorB15
import Derived.Test.YthnhlkflkidemaaGreatDoorB13
set_option linter.unusedVariables false
set_option linter.unusedSimpArgs false
/-
 The plans of the regions that draw their order: printed by a program.
-/
namespace Go.Proofs.YthnhlkflkidemaaGreatDoor
open Go Go.Sy
def pl18_2:Plan:=eg [0,1,2]<| .alt 3 (.alt 4 (.eager 5<| .done) .no) .no
def pl18_8:Plan:=eg [0,1,2,3,4,5,6,7]<| .alt 8 (.eager 9<| .alt 10 (.done) .no) .no
def pl20_6:Plan:= .eager 0<| .alt 1 (.eager 2<| .alt 3 (.eager 4<| .alt 5 (.done) .no) .no) .no
def pl22_2:Plan:=eg [0,1,2,5]<| .alt 3 (.alt 4 (.alt 6 (.eager 7<| .alt 8 (.done) .no) .no) .no) .no
def pl24_6:Plan:=eg [0,1,2,3,4,5,6,7,8]<| .done
def pl53_3:Plan:=eg [0,1]<|(.alt 2 ((.alt 3 (.alt 4 (.alt 5 (.done) .no) .no) (.alt 4 (.alt 3 (.alt 5 (.done) .no) .no) .no))) (.alt 4 (.alt 2 (.alt 3 (.alt 5 (.done) .no) .no) .no) .no))
def pl73_1:Plan:=eg [0,1,2,3,4,5,6,7]<| .done
def pl73_6:Plan:=eg [0,1,2,3,4,5,6,7,8]<| .done
def pl73_12:Plan:=eg [0,1,2,3,4,5,6,7]<| .alt 8 (.eager 9<| .done) .no
def pl76_5:Plan:=eg [0,1,2,3,4,5]<| .alt 6 (.alt 7 (.eager 8<| .done) .no) .no
def pl76_7:Plan:=eg [0,1,2,3,4,5,6,7,8,9,10,11,12,13,14,15,16,17,18,19,20,21,22,23,24,25,26,27,28,29,30,31]<| .alt 32 (.done) .no
def pl78_1:Plan:=eg [0,1,4]<| .alt 2 (.alt 3 (.alt 5 (eg [6,7,8,9,10,11,12]<| .done) .no) .no) .no
def pl80_4:Plan:=eg [0,1,2,3,4,5,6,7,8,9,10,11,12,13,14,15,16,17,18,19,20,21,22,23]<| .done
def pl83_1:Plan:=eg [0,1,2,3]<| .alt 4 (.eager 5<| .alt 6 (eg [7,8,9,10,11]<| .done) .no) .no
def pl87_6:Plan:=eg [0,1,2,3,4,5,6,7,8]<| .done
def pl91_9:Plan:=eg [0,1,2,3,4,5,6,7,8,9,10,11,12,13,14]<| .done
def pl91_14:Plan:=eg [0,1,2,3,4]<| .alt 5 (eg [6,7,8,9,10,11,12,13,14,15,16,17,18,19,20,21,22]<| .done) .no
def pl92_1:Plan:=eg [0,1,2,3,4,5,6,7,8,9,10,11,12,13,14,15,16,17,18,19]<| .alt 20 (eg [21,22]<| .done) .no
def pl98_6:Plan:=eg [0,1]<| .alt 2 (eg [3,4,5,6]<| .alt 7 (eg [8,9,10,11,12,13,14,15,16,17,18,19,20,21,22,23,24,25]<| .alt 26 (.done) .no) .no) .no
def pl107_1:Plan:=eg [0,1,2,3,4,5,6,7,8,9]<| .alt 10 (.alt 11 (.eager 12<| .done) .no) .no
def pl115_7:Plan:=eg [0,1,2,3,4,5,7,8]<| .alt 6 (.eager 9<| .done) .no
def pl124_4:Plan:=eg [0,1]<| .alt 2 (eg [3,4,5,6,8,9,10]<| .alt 7 (eg [11,12,13]<| .done) .no) .no
def pl139_1:Plan:=eg [0,1,2,3,4,5,6,7,8,9,10,11,12,13,14,15,16,17,18,19]<| .done
def pl145_6:Plan:=eg [0,1,2,3,4,5,6,7,8,9]<| .alt 10 (.done) .no
def pl162_1:Plan:=eg [0,1,2,3,4]<| .alt 5 (eg [6,7,8,9,10]<| .done) .no
def pl168_1:Plan:=eg [0,1,2,3,4,5,6,7,8,9,10,11,12,13,14,15]<| .done
def pl170_2:Plan:=eg [0,1,2,3,4]<| .alt 5 (eg [6,7,8,9,10]<| .done) .no
def pl170_6:Plan:=eg [0,1,2,3,4,5,6,7,8,9,10,11,12,13,14,15,16,17,18,19,20,21,22,23,24,25,26,27,28,29,30,31]<| .done
def pl170_7:Plan:=eg [0,1,2,3,4,5,6,7,8,9,10,11,12,13]<| .done
def pl170_10:Plan:=eg [0,1,2,3,4,5,6,7,8,9,10,11,12]<| .done
def pl170_11:Plan:=eg [0,1,2,3,4,5,6,7,8,9,10,11,12,13,14,15,16,17,18,19,20,21,22]<| .alt 23 (.done) .no
def pl170_12:Plan:=eg [0,1,2,3,4]<| .alt 5 (.eager 6<| .done) .no
def pl177_1:Plan:=eg [0,1,2,3,4,5,6,7,8,9,10,11]<|(.alt 12 (.alt 13 (.alt 14 (.alt 15 (.done) .no) .no) .no) (.alt 13 (.alt 12 (.alt 14 (.alt 15 (.done) .no) .no) .no) .no))
def pl177_2:Plan:=eg [0,1,2,5,6,7,8,9,10,11,12,13,14,15,16,17,18,19]<| .alt 3 (eg [4,20,21]<| .done) .no
def pl198_5:Plan:= .eager 0<| .alt 1 (.alt 2 (.done) .no) .no
def pl199_12:Plan:=eg [0,1,2,3,4,5,6,7]<| .alt 8 (.eager 9<| .done) .no
def pl206_6:Plan:=eg [0,1,2,3,5,6]<| .alt 4 (.alt 7 (.eager 8<| .done) .no) .no
def pl208_11:Plan:=eg [0,1,2,3,4,5,6,8,9,10,11]<| .alt 7 (.alt 12 (eg [13,14]<| .done) .no) .no
def pl218_4:Plan:=eg [0,1,2,3,4,5,6,7,8,9,10,11,12,13]<| .alt 14 (eg [15,16]<| .done) .no
def pl278_1:Plan:=eg [0,1,2,3,4,5,6,7,8,9,10,11,12,13,14,19,20,21,22,23,24,25,26,27]<| .alt 15 (.alt 16 (eg [17,18,28,29,30]<| .done) .no) .no
set_option maxRecDepth 100000
theorem inR_iff(n:Int):InR .i64 n↔ -9223372036854775808≤n∧n≤9223372036854775807:=by
 exact Iff.rfl
theorem sA{P:Prop}(h:P:=by simp[AllP,under,gB,wB,inR_iff,IntKind.bits]):P:=h
def inB(n lo hi:Int):Bool:=decide (lo≤n)&&decide (n≤hi)
theorem inB_iff{n lo hi:Int} :inB n lo hi=true↔lo≤n∧n≤hi:=by simp[inB]
def hiB(lo hi:Int):Bool:=decide (0≤lo)&&(decide (lo≤hi)&&decide (hi≤60))
attribute [local irreducible] CallP CodeP Ent
theorem u90(n lo hi:Int):CallP Tryz.prog 159 [.int .i64 n,.int .i64 lo,.int .i64 hi] [] (Ret (.bool (inB n lo hi)) []):=by
 refine callP_enter (E:=E) E_ok Tryz.func159 rfl ?_;refine aN ?_ ?_
 ·simp[AllP,under,gB,wB]
 ·refine And.intro (congrArg (fun b=>CE.ret (SV.bool b)) ?_) rfl;unfold inB;cases decide (lo≤n)<;>rfl
theorem u91(n lo hi:Int):CallP Tryz.prog 153 [.int .i64 n,.int .i64 lo,.int .i64 hi] [] (Ret (.bool (inB n lo hi)) []):=by
 refine callP_enter (E:=E) E_ok Tryz.func153 rfl ?_;refine aN ?_ ?_
 ·simp[AllP,under,gB,wB]
 ·refine And.intro (congrArg (fun b=>CE.ret (SV.bool b)) ?_) rfl;unfold inB;cases decide (lo≤n)<;>rfl
theorem u92(lo hi:Int):CallP Tryz.prog 154 [.agg [.int .i64 lo,.int .i64 hi]] [] (Ret (.bool (hiB lo hi)) []):=by
 refine callR (E:=E) E_ok Tryz.func154 rfl ?_;refine aN ?_ ?_
 ·simp[AllP,under,gB,wB]
 ·refine ent_tau [] ⟨trivial,⟨rfl,congrArg SV.bool ?_,trivial⟩,rfl⟩;unfold hiB;cases decide (0≤lo)<;>cases decide (lo≤hi)<;>rfl
theorem u96(lo hi:Int):CallP Tryz.prog 161 [.agg [.int .i64 lo,.int .i64 hi]] [] (Ret (.bool (hiB lo hi)) []):=by
 refine callR (E:=E) E_ok Tryz.func161 rfl ?_;refine aN ?_ ?_
 ·simp[AllP,under,gB,wB]
 ·refine ent_tau [] ⟨trivial,⟨rfl,congrArg SV.bool ?_,trivial⟩,rfl⟩;unfold hiB;cases decide (0≤lo)<;>cases decide (lo≤hi)<;>rfl
theorem u47(n:Int):CallP Tryz.prog 192 [.int .i64 n] [] (Ret (.bool (inB n 0 60)) []):=by
 refine callP_enter (E:=E) E_ok Tryz.func192 rfl ?_;refine aN ?_ ?_
 ·simp[AllP,under,gB,wB]
 ·refine(u90 _ _ _).use [] ?_ trivial rfl;refine aN ?_ ?_
  ·simp[AllP,under,gB,wB]
  ·exact And.intro rfl rfl
end Go.Proofs.YthnhlkflkidemaaGreatDoor
/-
 The specification's test of a tide.
-/
namespace Go.Proofs.YthnhlkflkidemaaGreatDoor
open Go Go.Sy
set_option maxRecDepth 100000
set_option maxHeartbeats 4000000
structure TD where
 nM:Nat
 nS:Nat
 nL:Nat
 mi:Nat→Int
 mlo:Nat→Int
 mhi:Nat→Int
 slo:Nat→Int
 shi:Nat→Int
 lp:Nat→Int
 lm:Nat→Int
 llo:Nat→Int
 lhi:Nat→Int
 bM:Bool
 bS:Bool
 bL:Bool
 cM:Nat
 cS:Nat
 cL:Nat
def row2(a b:Nat→Int)(k:Nat):List SV:=[.int .i64 (a k),.int .i64 (b k)]
def row3(a b c:Nat→Int)(k:Nat):List SV:=[.int .i64 (a k),.int .i64 (b k),.int .i64 (c k)]
def row4(a b c d:Nat→Int)(k:Nat):List SV:=[.int .i64 (a k),.int .i64 (b k),.int .i64 (c k),.int .i64 (d k)]
def TD.H(t:TD):SHeap:=[some (.roa 3 t.nM (row3 t.mi t.mlo t.mhi)),some (.roa 2 t.nS (row2 t.slo t.shi)),some (.roa 4 t.nL (row4 t.lp t.lm t.llo t.lhi))]
def TD.A(t:TD):SV:= .agg [.osl t.bM 0 3 t.nM t.cM,.osl t.bS 1 2 t.nS t.cS,.osl t.bL 2 4 t.nL t.cL]
structure TD.ok(t:TD):Prop where
 mi: ∀k,InR .i64 (t.mi k)
 mlo: ∀k,InR .i64 (t.mlo k)
 mhi: ∀k,InR .i64 (t.mhi k)
 slo: ∀k,InR .i64 (t.slo k)
 shi: ∀k,InR .i64 (t.shi k)
 lp: ∀k,InR .i64 (t.lp k)
 lm: ∀k,InR .i64 (t.lm k)
 llo: ∀k,InR .i64 (t.llo k)
 lhi: ∀k,InR .i64 (t.lhi k)
def TD.markOk(t:TD)(i:Nat):Prop:=(0≤t.mi i∧t.mi i≤240)∧(0≤t.mlo i∧t.mlo i≤t.mhi i∧t.mhi i≤60)∧t.mhi i-t.mlo i≤2∧(0<i→t.mi (i-1)+6≤t.mi i)
def TD.sandOk(t:TD)(i:Nat):Prop:=(0≤t.slo i∧t.slo i≤t.shi i∧t.shi i≤60)∧t.shi i-t.slo i≤2
def TD.lookOk(t:TD)(i:Nat):Prop:=(0≤t.lp i∧t.lp i≤t.nS-1)∧(t.mi 0≤t.lm i∧t.lm i≤t.mi (t.nM-1))∧(0≤t.llo i∧t.llo i≤t.lhi i∧t.lhi i≤60)
def TD.Valid(t:TD):Prop:=(2≤t.nM∧t.nM≤4)∧(1≤t.nS∧t.nS≤4)∧t.nL≤6∧(∀i,i<t.nM→t.markOk i)∧(∀i,i<t.nS→t.sandOk i)∧(∀i,i<t.nL→t.lookOk i)
open Classical in
noncomputable def TD.valid(t:TD):Bool:=decide t.Valid
attribute [local irreducible] CallP CodeP Ent
theorem u52(t:TD)(hs:t.nS≤1000)(n:Int):CallP Tryz.prog 109 [t.A,.int .i64 n] t.H (Ret (.bool (inB n 0 (t.nS-1))) t.H):=by
 refine callR (E:=E) E_ok Tryz.func109 rfl ?_;refine aN ?_ ?_
 ·simp[AllP,under,gB,wB,inR_iff];omega
 refine(u91 _ _ _).use [] ?_ trivial rfl;refine aN ?_ ?_
 ·simp[AllP,under,gB,wB]
 ·exact ent_of [0,1,2] ⟨⟨rfl,rfl,fun _ _=>rfl⟩,⟨rfl,rfl,fun _ _=>rfl⟩,⟨rfl,rfl,fun _ _=>rfl⟩,trivial⟩ ⟨rfl,rfl,trivial⟩ rfl rfl rfl
theorem u58(t:TD)(hs:t.nM≤1000)(n:Int):CallP Tryz.prog 92 [t.A,.int .i64 n] t.H (Ret (.bool (decide (0<t.nM)&&inB n (t.mi 0) (t.mi (t.nM-1)))) t.H):=by
 refine callR (E:=E) E_ok Tryz.func92 rfl ?_;refine aN ?_ ?_
 ·simp[AllP,under,gB,wB,inR_iff]
 refine drawP E_ok [3] pl92_1 (by kernel_rfl) ?_;refine And.intro (And.intro ?_ (And.intro (fun h1=>?_) (fun h1=>?_))) trivial
 ·simp[AllP,under,gB,wB,inR_iff];omega
 ·have e1:(0+((t.nM:Int)-1).toNat)=t.nM-1:=by omega
  refine(u91 _ _ _).use [] ?_ trivial rfl;refine And.intro ?_ (And.intro rfl ?_)
  ·simp[AllP,under,gB,wB,inR_iff]
  refine And.intro trivial ?_;refine ent_of [0,1,2] ⟨⟨rfl,rfl,fun _ _=>rfl⟩,⟨rfl,rfl,fun _ _=>rfl⟩,⟨rfl,rfl,fun _ _=>rfl⟩,trivial⟩ ⟨rfl,congrArg SV.bool ?_,trivial⟩ rfl rfl rfl;have h2:0<t.nM:=by simpa[gB,wB]using h1
  simp[h2,e1]
 ·refine And.intro ?_ (And.intro rfl ?_)
  ·simp[gB,wB]at h1;simp[AllP,under,gB,wB,inR_iff,h1]
  refine And.intro trivial ?_;refine ent_of [0,1,2] ⟨⟨rfl,rfl,fun _ _=>rfl⟩,⟨rfl,rfl,fun _ _=>rfl⟩,⟨rfl,rfl,fun _ _=>rfl⟩,trivial⟩ ⟨rfl,congrArg SV.bool ?_,trivial⟩ rfl rfl rfl;have h2:t.nM=0:=by simpa[gB,wB]using h1
  simp[h2]
theorem u34(t:TD)(ht:t.ok):CallP Tryz.prog 91 [t.A] t.H (Ret (.bool t.valid) t.H):=by
 have fin: ∀(b:Bool) (h1:SHeap),b=t.valid→Fits (sel [0,1,2] h1.length) h1 [0,1,2] t.H→Ent t.H.length ⟨[some (none,.bool b)],h1,[]⟩ ⟨[some (none,.bool t.valid)],t.H,[]⟩:=by
  intro b h1 hb hf
  subst hb
  exact ent_of [0,1,2] hf ⟨rfl,rfl,trivial⟩ rfl rfl rfl
 have bad: ¬t.Valid→false=t.valid:=fun h=>by simp[TD.valid,h]
 have hmi:=fun k=>(inR_iff _).1 (ht.mi k)
 refine callR (E:=E) E_ok Tryz.func91 rfl ?_
 refine aN ?_ ?_
 ·simp[AllP,under,gB,wB]
 refine(u91 _ _ _).use [] ?_ trivial rfl
 refine aN ?_ ?_
 ·simp[AllP,under,gB,wB]
 refine And.intro (fun h1=>?_) (fun h1=>?_)
 ·simp[gB,wB,inB]at h1
  refine(u91 _ _ _).use [] ?_ trivial rfl
  refine And.intro ?_ (And.intro (fun h2=>?_) (fun h2=>?_))
  ·simp[AllP,under,gB,wB]
  ·refine aN ?_ ?_
   ·simp[AllP,under,gB,wB,inR_iff]
   refine fin _ _ (bad fun hv=>?_) ?_
   ·have h3:=hv.1
    have h4:=hv.2.1
    have h5:=hv.2.2.1
    simp[inB]at h2
    omega
   ·exact⟨⟨rfl,rfl,fun _ _=>rfl⟩,⟨rfl,rfl,fun _ _=>rfl⟩,⟨rfl,rfl,fun _ _=>rfl⟩,trivial⟩
  ·-- the lists are as long as they may be
   simp[inB]at h2
   refine aN ?_ ?_
   ·simp[AllP,under,gB,wB]
   refine loopP E_ok [1] (fun i:Nat=>[(3,.int .i64 i)]) (fun _ h=>h) (fun i=>i≤t.nM∧ ∀j,j<i→t.markOk j) (fun i=>t.nM-i) 0 ⟨Nat.zero_le _,fun j h=>by omega⟩ ?_ ?_
   ·refine ent_tau [0,1,2,3] ⟨?_,?_,rfl⟩
    ·exact⟨⟨rfl,rfl,fun _ _=>rfl⟩,⟨rfl,rfl,fun _ _=>rfl⟩,⟨rfl,rfl,fun _ _=>rfl⟩,rfl,trivial⟩
    ·exact⟨rfl,rfl,rfl,rfl,trivial⟩
   ·rintro i ⟨hi,hall⟩
    refine And.intro ?_ (And.intro (fun h3=>?_) (fun h3=>?_))
    ·simp[AllP,under,gB,wB]
    ·have hlt:i<t.nM:=by simpa using h3
     refine aN ?_ ?_
     ·simp[AllP,under,gB,wB]
      omega
     refine(u91 _ _ _).use [] ?_ trivial rfl
     refine And.intro ?_ (And.intro (fun h4=>?_) (fun h4=>?_))
     ·simp[AllP,under,gB,wB]
     ·refine(u92 _ _).use [] ?_ trivial rfl
      refine And.intro ?_ (And.intro (fun h5=>?_) (fun h5=>?_))
      ·simp[AllP,under,gB,wB,inR_iff,hiB]
       omega
      ·skip
       refine aN ?_ ?_
       ·simp[AllP,under,gB,wB,inR_iff]
       refine And.intro trivial ?_
       refine fin _ _ (bad fun hv=>?_) ?_
       ·have hm:=hv.2.2.2.1 i hlt
        simp only[TD.markOk]at hm
        simp[inB,hiB,gB,wB]at h5
        omega
       ·exact⟨⟨rfl,rfl,fun _ _=>rfl⟩,⟨rfl,rfl,fun _ _=>rfl⟩,⟨rfl,rfl,fun _ _=>rfl⟩,trivial⟩
      ·refine aN ?_ ?_
       ·simp[AllP,under,gB,wB]
       refine drawP E_ok [3,4] pl91_9 (by kernel_rfl) ?_
       refine And.intro ?_ (And.intro rfl ?_)
       ·have hp:=fun h=>hall (i-1) h
        simp only[TD.markOk]at hp
        simp[AllP,under,gB,wB,inR_iff]
        omega
       ·simp[inB,hiB]at h5
        refine And.intro ?_ (And.intro (fun h6=>?_) (fun h6=>?_))
        ·simp[AllP,under,gB,wB,inR_iff]
        ·skip
         refine aN ?_ ?_
         ·simp[AllP,under,gB,wB,inR_iff]
         refine And.intro trivial ?_
         refine fin _ _ (bad fun hv=>?_) ?_
         ·have hm:=hv.2.2.2.1 i hlt
          simp only[TD.markOk]at hm
          simp at h6
          omega
         ·exact⟨⟨rfl,rfl,fun _ _=>rfl⟩,⟨rfl,rfl,fun _ _=>rfl⟩,⟨rfl,rfl,fun _ _=>rfl⟩,trivial⟩
        ·refine And.intro ?_ ⟨i+1,⟨hlt,fun j hj=>?_⟩,by omega,?_⟩
         ·simp[AllP,under,gB,wB,inR_iff]
          omega
         ·rcases Nat.lt_or_ge j i with hji|hji
          ·exact hall j hji
          ·have:j=i:=by omega
           subst this
           simp[inB,gB,wB]at h4 h6
           simp only[TD.markOk]
           omega
         ·refine ent_tau [0,1,2,3] ⟨?_,?_,rfl⟩
          ·exact⟨⟨rfl,rfl,fun _ _=>rfl⟩,⟨rfl,rfl,fun _ _=>rfl⟩,⟨rfl,rfl,fun _ _=>rfl⟩,rfl,trivial⟩
          ·exact⟨rfl,rfl,rfl,congrArg (SV.int .i64) (Int.natCast_succ i).symm,trivial⟩
     ·simp[inB,gB,wB]at h4
      refine And.intro ?_ (And.intro (fun h5=>?_) (fun h5=>?_))
      ·simp[AllP,under,gB,wB,inR_iff,inB,h4]
       exact h4
      ·skip
       refine aN ?_ ?_
       ·simp[AllP,under,gB,wB,inR_iff]
       refine And.intro trivial ?_
       refine fin _ _ (bad fun hv=>?_) ?_
       ·have hm:=hv.2.2.2.1 i hlt
        simp only[TD.markOk]at hm
        simp[inB,hiB,gB,wB]at h5
        omega
       ·exact⟨⟨rfl,rfl,fun _ _=>rfl⟩,⟨rfl,rfl,fun _ _=>rfl⟩,⟨rfl,rfl,fun _ _=>rfl⟩,trivial⟩
      ·simp[inB,hiB]at h5
    ·have hM:i=t.nM:=by
      have: ¬(i<t.nM):=by simpa using h3
      omega
     subst hM
     refine aN ?_ ?_
     ·simp[AllP,under,gB,wB]
     refine And.intro trivial ?_
     refine loopP E_ok [1] (fun i:Nat=>[(5,.int .i64 i)]) (fun _ h=>h) (fun i=>i≤t.nS∧ ∀j,j<i→t.sandOk j) (fun i=>t.nS-i) 0 ⟨Nat.zero_le _,fun j h=>by omega⟩ ?_ ?_
     ·refine ent_tau [0,1,2,3] ⟨?_,?_,rfl⟩
      ·exact⟨⟨rfl,rfl,fun _ _=>rfl⟩,⟨rfl,rfl,fun _ _=>rfl⟩,⟨rfl,rfl,fun _ _=>rfl⟩,rfl,trivial⟩
      ·exact⟨rfl,rfl,rfl,rfl,trivial⟩
     ·rintro i ⟨hi,hsand⟩
      refine And.intro ?_ (And.intro (fun h3=>?_) (fun h3=>?_))
      ·simp[AllP,under,gB,wB]
      ·have hlt:i<t.nS:=by simpa using h3
       refine aN ?_ ?_
       ·simp[AllP,under,gB,wB]
       refine drawP E_ok [3] pl91_14 (by kernel_rfl) ?_
       refine And.intro (And.intro ?_ ?_) trivial
       ·simp[AllP,under,gB,wB,inR_iff]
        omega
       refine(u92 _ _).use [] ?_ trivial rfl
       refine And.intro ?_ (And.intro rfl ?_)
       ·simp[AllP,under,gB,wB,inR_iff,hiB]
        omega
       refine And.intro ?_ (And.intro (fun h5=>?_) (fun h5=>?_))
       ·simp[AllP,under,gB,wB,inR_iff]
       ·skip
        refine aN ?_ ?_
        ·simp[AllP,under,gB,wB,inR_iff]
        refine And.intro trivial ?_
        refine fin _ _ (bad fun hv=>?_) ?_
        ·have hm:=hv.2.2.2.2.1 i hlt
         simp only[TD.sandOk]at hm
         simp[hiB]at h5
         omega
        ·exact⟨⟨rfl,rfl,fun _ _=>rfl⟩,⟨rfl,rfl,fun _ _=>rfl⟩,⟨rfl,rfl,fun _ _=>rfl⟩,trivial⟩
       ·refine And.intro ?_ ⟨i+1,⟨hlt,fun j hj=>?_⟩,by omega,?_⟩
        ·simp[AllP,under,gB,wB,inR_iff]
         omega
        ·rcases Nat.lt_or_ge j i with hji|hji
         ·exact hsand j hji
         ·have:j=i:=by omega
          subst this
          simp[hiB]at h5
          simp only[TD.sandOk]
          omega
        ·refine ent_tau [0,1,2,3] ⟨?_,?_,rfl⟩
         ·exact⟨⟨rfl,rfl,fun _ _=>rfl⟩,⟨rfl,rfl,fun _ _=>rfl⟩,⟨rfl,rfl,fun _ _=>rfl⟩,rfl,trivial⟩
         ·exact⟨rfl,rfl,rfl,congrArg (SV.int .i64) (Int.natCast_succ i).symm,trivial⟩
      ·have hS:i=t.nS:=by
        have: ¬(i<t.nS):=by simpa using h3
        omega
       subst hS
       refine aN ?_ ?_
       ·simp[AllP,under,gB,wB]
       refine And.intro trivial ?_
       have hM0:0<t.nM:=by omega
       refine loopP E_ok [1] (fun i:Nat=>[(6,.int .i64 i)]) (fun _ h=>h) (fun i=>i≤t.nL∧ ∀j,j<i→t.lookOk j) (fun i=>t.nL-i) 0 ⟨Nat.zero_le _,fun j h=>by omega⟩ ?_ ?_
       ·refine ent_tau [0,1,2,3] ⟨?_,?_,rfl⟩
        ·exact⟨⟨rfl,rfl,fun _ _=>rfl⟩,⟨rfl,rfl,fun _ _=>rfl⟩,⟨rfl,rfl,fun _ _=>rfl⟩,rfl,trivial⟩
        ·exact⟨rfl,rfl,rfl,rfl,trivial⟩
       ·rintro i ⟨hi,hlook⟩
        refine And.intro ?_ (And.intro (fun h3=>?_) (fun h3=>?_))
        ·simp[AllP,under,gB,wB]
        ·have hlt:i<t.nL:=by simpa using h3
         refine aN ?_ ?_
         ·simp[AllP,under,gB,wB]
          omega
         refine(u52 t (by omega) _).use [0,1,2] ?_ ⟨⟨rfl,rfl,fun _ _=>rfl⟩,⟨rfl,rfl,fun _ _=>rfl⟩,⟨rfl,rfl,fun _ _=>rfl⟩,trivial⟩ rfl
         refine And.intro ?_ (And.intro (fun h6=>?_) (fun h6=>?_))
         ·simp[AllP,under,gB,wB,inR_iff]
         ·refine(u58 t (by omega) _).use [0,1,2] ?_ ⟨⟨rfl,rfl,fun _ _=>rfl⟩,⟨rfl,rfl,fun _ _=>rfl⟩,⟨rfl,rfl,fun _ _=>rfl⟩,trivial⟩ rfl
          refine And.intro ?_ (And.intro (fun h7=>?_) (fun h7=>?_))
          ·simp[AllP,under,gB,wB,inR_iff]
          ·refine(u92 _ _).use [] ?_ trivial rfl
           refine And.intro ?_ (And.intro (fun h8=>?_) (fun h8=>?_))
           ·simp[AllP,under,gB,wB,inR_iff]
           ·skip
            refine aN ?_ ?_
            ·simp[AllP,under,gB,wB,inR_iff]
            refine And.intro trivial ?_
            refine fin _ _ (bad fun hv=>?_) ?_
            ·have hm:=hv.2.2.2.2.2 i hlt
             simp only[TD.lookOk]at hm
             simp[inB,hiB,gB,wB,hM0]at h8
             omega
            ·exact⟨⟨rfl,rfl,fun _ _=>rfl⟩,⟨rfl,rfl,fun _ _=>rfl⟩,⟨rfl,rfl,fun _ _=>rfl⟩,trivial⟩
           ·refine And.intro ?_ ⟨i+1,⟨hlt,fun j hj=>?_⟩,by omega,?_⟩
            ·simp[AllP,under,gB,wB,inR_iff]
             omega
            ·rcases Nat.lt_or_ge j i with hji|hji
             ·exact hlook j hji
             ·have:j=i:=by omega
              subst this
              simp[inB,hiB,gB,wB,hM0]at h8
              simp only[TD.lookOk]
              omega
            ·refine ent_tau [0,1,2,3] ⟨?_,?_,rfl⟩
             ·exact⟨⟨rfl,rfl,fun _ _=>rfl⟩,⟨rfl,rfl,fun _ _=>rfl⟩,⟨rfl,rfl,fun _ _=>rfl⟩,rfl,trivial⟩
             ·exact⟨rfl,rfl,rfl,congrArg (SV.int .i64) (Int.natCast_succ i).symm,trivial⟩
          ·have h7':=h7
           simp[gB,wB]at h7'
           refine And.intro ?_ (And.intro (fun h8=>?_) (fun h8=>?_))
           ·simp[AllP,under,gB,wB,inR_iff]
            exact h7'
           ·skip
            refine aN ?_ ?_
            ·simp[AllP,under,gB,wB,inR_iff]
            refine And.intro trivial ?_
            refine fin _ _ (bad fun hv=>?_) ?_
            ·have hm:=hv.2.2.2.2.2 i hlt
             simp only[TD.lookOk]at hm
             simp[inB,hiB,gB,wB,hM0]at h7
             omega
            ·exact⟨⟨rfl,rfl,fun _ _=>rfl⟩,⟨rfl,rfl,fun _ _=>rfl⟩,⟨rfl,rfl,fun _ _=>rfl⟩,trivial⟩
           ·simp at h8
         ·have h6':=h6
          simp[gB,wB]at h6'
          refine And.intro ?_ (And.intro (fun h7=>?_) (fun h7=>?_))
          ·simp[AllP,under,gB,wB,inR_iff,h6']
          ·simp[gB,wB,h6']at h7
          ·refine And.intro ?_ (And.intro (fun h8=>?_) (fun h8=>?_))
           ·simp[AllP,under,gB,wB,inR_iff,h6']
           ·skip
            refine aN ?_ ?_
            ·simp[AllP,under,gB,wB,inR_iff]
            refine And.intro trivial ?_
            refine fin _ _ (bad fun hv=>?_) ?_
            ·have hm:=hv.2.2.2.2.2 i hlt
             simp only[TD.lookOk]at hm
             simp[inB,hiB,gB,wB,hM0]at h6
             omega
            ·exact⟨⟨rfl,rfl,fun _ _=>rfl⟩,⟨rfl,rfl,fun _ _=>rfl⟩,⟨rfl,rfl,fun _ _=>rfl⟩,trivial⟩
           ·simp[h6']at h8
        ·have hL:i=t.nL:=by
          have: ¬(i<t.nL):=by simpa using h3
          omega
         subst hL
         refine aN ?_ ?_
         ·simp[AllP,under,gB,wB]
         refine And.intro trivial ?_
         refine fin _ _ ?_ ⟨⟨rfl,rfl,fun _ _=>rfl⟩,⟨rfl,rfl,fun _ _=>rfl⟩,⟨rfl,rfl,fun _ _=>rfl⟩,trivial⟩
         have:t.Valid:=⟨by omega,by omega,by omega,hall,hsand,hlook⟩
         simp[TD.valid,this]
 ·simp[gB,wB]at h1
  refine And.intro ?_ (And.intro (fun h2=>?_) (fun h2=>?_))
  ·simp[AllP,under,gB,wB,h1]
  ·refine aN ?_ ?_
   ·simp[AllP,under,gB,wB]
   refine fin _ _ (bad fun hv=>?_) ?_
   ·have h3:=hv.1
    simp[inB]at h1
    omega
   ·exact⟨⟨rfl,rfl,fun _ _=>rfl⟩,⟨rfl,rfl,fun _ _=>rfl⟩,⟨rfl,rfl,fun _ _=>rfl⟩,trivial⟩
  ·simp[h1]at h2
theorem u43_nil(e:Int):CallP Tryz.prog 97 [.inil,.ptr 0 0] [some (.cells [.int .i64 e])] (Ret (.tup []) [some (.cells [.int .i64 e])]):=by
 refine callR (E:=E) E_ok Tryz.func97 rfl ?_;refine And.intro ?_ (And.intro (fun h=>?_) (fun h=>?_))
 ·simp[AllP,under,gB,wB]
 ·refine aN ?_ ?_
  ·simp[AllP,under,gB,wB]
  ·exact ent_of [0] ⟨rfl,trivial⟩ ⟨rfl,rfl,trivial⟩ rfl rfl rfl
 ·simp at h
theorem u43_stop(e v:Int):CallP Tryz.prog 97 [.iface 224 (.agg [.int .i64 v]),.ptr 0 0] [some (.cells [.int .i64 e])] (Ret (.tup []) [some (.cells [.int .i64 v])]):=by
 refine callR (E:=E) E_ok Tryz.func97 rfl ?_;refine And.intro ?_ (And.intro (fun h=>?_) (fun h=>?_))
 ·simp[AllP,under,gB,wB]
 ·simp at h
 ·refine And.intro ?_ (And.intro (fun h2=>?_) (fun h2=>?_))
  ·simp[AllP,under,gB,wB]
  ·simp at h2
  ·refine aN ?_ ?_
   ·simp[AllP,under,gB,wB]
   ·exact ent_of [0] ⟨rfl,trivial⟩ ⟨rfl,rfl,trivial⟩ rfl rfl rfl
theorem u65_true(e:Int):CallP Tryz.prog 158 [.bool true,.int .i64 e] [] (Ret (.tup []) []):=by
 refine callR (E:=E) E_ok Tryz.func158 rfl ?_;refine And.intro ?_ (And.intro (fun h=>?_) (fun h=>?_))
 ·simp[AllP,under,gB,wB]
 ·simp at h
 ·refine aN ?_ ?_
  ·simp[AllP,under,gB,wB]
  ·exact ent_of [] trivial ⟨rfl,rfl,trivial⟩ rfl rfl rfl
theorem u65_false(e:Int):CallP Tryz.prog 158 [.bool false,.int .i64 e] [] (Pan (.iface 224 (.agg [.int .i64 e])) []):=by
 refine callK (E:=E) E_ok Tryz.func158 rfl ?_;refine And.intro ?_ (And.intro (fun h=>?_) (fun h=>?_))
 ·simp[AllP,under,gB,wB]
 ·refine And.intro ?_ ⟨.panic (.iface 224 (.agg [.int .i64 e])),[],⟨rfl,rfl⟩,?_⟩
  ·simp[AllP,under,gB,wB]
  ·exact ent_of [] trivial ⟨rfl,rfl,trivial⟩ rfl rfl rfl
 ·simp at h
def TD.shore(t:TD):SHeap:=[some (.roc [.osl t.bM 1 3 t.nM t.cM,.osl t.bS 2 2 t.nS t.cS,.osl t.bL 3 4 t.nL t.cL,.map 4]),
 some (.roa 3 t.nM (row3 t.mi t.mlo t.mhi)),some (.roa 2 t.nS (row2 t.slo t.shi)),some (.roa 4 t.nL (row4 t.lp t.lm t.llo t.lhi)),some .dead]
theorem u49(t:TD)(h1:1≤t.nM)(h2:t.nM≤1000):CallP Tryz.prog 168 [.ptr 0 0] t.shore (Ret (.int .i64 (t.mi (t.nM-1))) t.shore):=by
 refine callR (E:=E) E_ok Tryz.func168 rfl ?_;refine aN ?_ ?_
 ·simp[AllP,under,gB,wB]
 refine drawP E_ok [] pl168_1 (by kernel_rfl) ?_;refine And.intro ?_ (And.intro rfl ?_)
 ·simp[AllP,under,gB,wB,inR_iff];omega
 refine And.intro trivial ?_;have e1:(0+((t.nM:Int)-1).toNat)=t.nM-1:=by omega
 exact ent_of [0,1,2,3,4] ⟨rfl,⟨rfl,rfl,fun _ _=>rfl⟩,⟨rfl,rfl,fun _ _=>rfl⟩,⟨rfl,rfl,fun _ _=>rfl⟩,trivial,trivial⟩ ⟨rfl,congrArg (fun k=>SV.int .i64 (t.mi k)) e1,trivial⟩ rfl rfl rfl
theorem u46(t:TD)(h2:t.nS≤1000)(n:Int):CallP Tryz.prog 100 [.ptr 0 0,.int .i64 n] t.shore (Ret (.bool (inB n 0 (t.nS-1))) t.shore):=by
 refine callR (E:=E) E_ok Tryz.func100 rfl ?_;refine aN ?_ ?_
 ·simp[AllP,under,gB,wB,inR_iff];omega
 refine(u90 _ _ _).use [] ?_ trivial rfl;refine aN ?_ ?_
 ·simp[AllP,under,gB,wB,inR_iff]
 exact ent_of [0,1,2,3,4] ⟨rfl,⟨rfl,rfl,fun _ _=>rfl⟩,⟨rfl,rfl,fun _ _=>rfl⟩,⟨rfl,rfl,fun _ _=>rfl⟩,trivial,trivial⟩ ⟨rfl,rfl,trivial⟩ rfl rfl rfl
theorem u57(t:TD)(h1:1≤t.nM)(h2:t.nM≤1000)(n:Int):CallP Tryz.prog 107 [.ptr 0 0,.int .i64 n] t.shore (Ret (.bool (inB n (t.mi 0) (t.mi (t.nM-1)))) t.shore):=by
 refine callR (E:=E) E_ok Tryz.func107 rfl ?_;refine aN ?_ ?_
 ·simp[AllP,under,gB,wB,inR_iff]
 refine drawP E_ok [] pl107_1 (by kernel_rfl) ?_;refine And.intro (And.intro ?_ ?_) trivial
 ·simp[AllP,under,gB,wB,inR_iff];omega
 refine(u49 t h1 h2).use [0,1,2,3,4] ?_ ⟨rfl,⟨rfl,rfl,fun _ _=>rfl⟩,⟨rfl,rfl,fun _ _=>rfl⟩,⟨rfl,rfl,fun _ _=>rfl⟩,trivial,trivial⟩ rfl;refine And.intro (And.intro ?_ ?_) trivial
 ·simp[AllP,under,gB,wB,inR_iff]
 refine(u90 _ _ _).use [] ?_ trivial rfl;refine And.intro ?_ (And.intro rfl ?_)
 ·simp[AllP,under,gB,wB,inR_iff]
 refine And.intro trivial ?_;exact ent_of [0,1,2,3,4] ⟨rfl,⟨rfl,rfl,fun _ _=>rfl⟩,⟨rfl,rfl,fun _ _=>rfl⟩,⟨rfl,rfl,fun _ _=>rfl⟩,trivial,trivial⟩ ⟨rfl,rfl,trivial⟩ rfl rfl rfl
end Go.Proofs.YthnhlkflkidemaaGreatDoor
/-
 Contracts: how high the water stands.
-/
namespace Go.Proofs.YthnhlkflkidemaaGreatDoor
open Go Go.Sy
set_option maxRecDepth 100000
set_option maxHeartbeats 4000000
attribute [local irreducible] CallP CodeP Ent YieldP
def hgt(h:Nat→Int):SV:= .agg [.int .i64 (h 0),.int .i64 (h 1),.int .i64 (h 2),.int .i64 (h 3)]
def upd(h:Nat→Int)(k:Nat)(x:Int):Nat→Int:=fun m=>if m=k then x else h m
theorem u105(h:Nat→Int)(k:Nat)(hk:k<4)(x:Int):CallP Tryz.prog 207 [hgt h,.int .i64 k,.int .i64 x] [] (Ret (hgt (upd h k x)) []):=by
 refine callR (E:=E) E_ok Tryz.func207 rfl ?_;refine aN ?_ ?_
 ·simp[AllP,under,gB,wB,inR_iff,IntKind.bits];omega
 have e:(↑k:Int).toNat=k:=by omega
 refine ent_tau [] ⟨trivial,⟨rfl,?_,trivial⟩,rfl⟩;simp only[hgt,upd,e,ren,renL,SV.agg.injEq,List.cons.injEq,SV.int.injEq,true_and,and_true];refine⟨?_,?_,?_,?_⟩<;>split<;>simp_all
theorem u114(a b c m:Int):CallP Tryz.prog 210 [.agg [.int .i64 a,.int .i64 b,.int .i64 c],.ptr 0 0] [some (.roc [.int .i64 m])] (Ret (.bool (decide (m≤a))) [some (.roc [.int .i64 m])]):=by
 refine callR (E:=E) E_ok Tryz.func210 rfl ?_;refine aN ?_ ?_
 ·exact sA
 exact ent_tau [0] ⟨⟨rfl,trivial⟩,⟨rfl,rfl,trivial⟩,rfl⟩
def idx(p:Nat→Bool):Nat→Nat→Int
 |0,_=> -1
 |n+1,i=>if p i=true then i else idx p n (i+1)
theorem idx_hit{p:Nat→Bool} : ∀{n i k:Nat},k<n→(∀j,j<k→p (i+j)=false)→p (i+k)=true→idx p n i=((i+k:Nat):Int)
 |0,_,_,h,_,_=>by omega
 |n+1,i,0,_,_,h=>by simp only[idx];rw[if_pos (by simpa using h)];simp
 |n+1,i,k+1,hk,hj,h=>by
  have h0:=hj 0 (by omega);simp only[idx];rw[if_neg (by simpa using h0),idx_hit (k:=k) (by omega) (fun j hjk=>by have:=hj (j+1) (by omega);rwa [show i+(j+1)=i+1+j by omega]at this) (by rwa [show i+1+k=i+(k+1)by omega])];congr 1;omega
theorem idx_miss{p:Nat→Bool} : ∀{n i:Nat},(∀j,j<n→p (i+j)=false)→idx p n i= -1
 |0,_,_=>rfl
 |n+1,i,hj=>by
  have h0:=hj 0 (by omega);simp only[idx];rw[if_neg (by simpa using h0),idx_miss (fun j hjk=>by have:=hj (j+1) (by omega);rwa [show i+(j+1)=i+1+j by omega]at this)]
theorem u113(b:Bool)(n cap:Nat)(hn:n≤1000)(mi mlo mhi:Nat→Int)(m:Int):CallP Tryz.prog 209 [.osl b 0 3 n cap,.fn (.func 210) [] [.ptr 1 0]] [some (.roa 3 n (row3 mi mlo mhi)),some (.roc [.int .i64 m])]
  (Ret (.int .i64 (idx (fun i=>decide (m≤mi i)) n 0)) [some (.roa 3 n (row3 mi mlo mhi)),some (.roc [.int .i64 m])]):=by
 refine callR (E:=E) E_ok Tryz.func209 rfl ?_;refine aN ?_ ?_
 ·exact sA
 refine loopP E_ok [0,1,7] (fun i:Nat=>[(8,.int .i64 i)]) (fun _ h=>h) (fun i=>i≤n∧ ∀j,j<i→decide (m≤mi j)=false) (fun i=>n-i) 0 ⟨Nat.zero_le _,fun j h=>by omega⟩ ?_ ?_
 ·exact ent_tau [0,1] ⟨qZ0,qZ1,rfl⟩
 ·rintro i ⟨hi,hall⟩;refine And.intro ?_ (And.intro (fun hc=>?_) (fun hc=>?_))
  ·exact sA
  ·have hlt:i<n:=by simpa using hc
   refine aN ?_ ?_
   ·simp[AllP,under,gB,wB,inR_iff,IntKind.bits];omega
   refine(u114 _ _ _ _).use [1] ?_ ⟨rfl,trivial⟩ rfl;refine And.intro ?_ (And.intro (fun h2=>?_) (fun h2=>?_))
   ·exact sA
   ·refine aN ?_ ?_
    ·exact sA
    refine And.intro trivial ?_;refine ent_tau [0,1] ⟨⟨⟨rfl,rfl,fun _ _=>rfl⟩,rfl,trivial⟩,⟨rfl,congrArg (SV.int .i64) ?_,trivial⟩,rfl⟩;have e:(0+(↑i:Int).toNat)=i:=by omega
    have h2':m≤mi i:=by simpa[e]using h2
    rw[idx_hit (k:=i) hlt (fun j hj=>by simpa using hall j hj) (by simpa using h2')];simp
   ·have e:(0+(↑i:Int).toNat)=i:=by omega
    refine And.intro ?_ ⟨i+1,⟨hlt,fun j hj=>?_⟩,by omega,?_⟩
    ·simp[AllP,under,gB,wB,inR_iff,IntKind.bits];omega
    ·rcases Nat.lt_or_ge j i with hji|hji
     ·exact hall j hji
     ·have:j=i:=by omega
      subst this;simpa[e]using h2
    ·exact ent_tau [0,1] ⟨qZ0,qZ1,rfl⟩
  ·have hN:i=n:=by
    have: ¬(i<n):=by simpa using hc
    omega
   subst hN;refine aN ?_ ?_
   ·exact sA
   refine And.intro trivial ?_;refine ent_tau [0,1] ⟨⟨⟨rfl,rfl,fun _ _=>rfl⟩,rfl,trivial⟩,⟨rfl,congrArg (SV.int .i64) ?_,trivial⟩,rfl⟩;rw[idx_miss (fun j hj=>by simpa using hall j hj)]
def tw(q:Int):Int:=if q≤0 then 0 else if q=1 then 1 else if q=2 then 3 else if q=3 then 6 else if q=4 then 9 else if q=5 then 11 else 12
def nxF(mi:Nat→Int)(m:Int):Nat→Nat→Nat
 |0,i=>i
 |n+1,i=>if m≤mi i then i else nxF mi m n (i+1)
def TD.nx(t:TD)(m:Int):Nat:=nxF t.mi m (t.nM-2) 1
def TD.stand(t:TD)(h:Nat→Int)(m:Int):Int:=
 let k:=t.nx m
 let fr:=t.mi (k-1)
 let lg:=t.mi k-fr
 let x:=6*(m-fr)
 let q:=x/lg
 let r:=x%lg
 let f:=tw q*lg+(if 0<r then(tw (q+1)-tw q)*r else 0)
 (h (k-1)*(12*lg-f)+h k*f)/(12*lg)
def TD.F(t:TD)(ks:List Int):Int:=t.stand (fun i=>ks.getD i 0) (ks.getD 4 0)
def TD.isMin(t:TD)(m:Int):Prop:=t.mi 0≤m∧m≤t.mi (t.nM-1)
theorem nxF_spec{mi:Nat→Int}{m:Int} : ∀{n i:Nat},m≤mi (i+n)→i≤nxF mi m n i∧nxF mi m n i≤i+n∧m≤mi (nxF mi m n i)∧ ∀j,i≤j→j<nxF mi m n i→mi j<m
 |0,i,h=>⟨Nat.le_refl _,Nat.le_refl _,h,fun j h1 h2=>by simp only[nxF]at h2;omega⟩
 |n+1,i,h=>by
  simp only[nxF];split
  ·rename_i hi;exact⟨Nat.le_refl _,by omega,hi,fun j h1 h2=>by omega⟩
  ·rename_i hi;obtain⟨h1,h2,h3,h4⟩:=nxF_spec (n:=n) (i:=i+1) (mi:=mi) (m:=m) (by rwa [show i+1+n=i+(n+1)by omega]);refine⟨by omega,by omega,h3,fun j h5 h6=>?_⟩;rcases Nat.eq_or_lt_of_le h5 with rfl|h5
   ·omega
   ·exact h4 j h5 h6
theorem TD.Valid.marks{t:TD}(hv:t.Valid){i:Nat}(hi:i<t.nM):t.markOk i:=hv.2.2.2.1 i hi
theorem TD.Valid.step{t:TD}(hv:t.Valid){i:Nat}(h0:0<i)(hi:i<t.nM):t.mi (i-1)+6≤t.mi i:=(hv.marks hi).2.2.2 h0
theorem TD.nx_spec{t:TD}(hv:t.Valid){m:Int}(hm:t.isMin m):1≤t.nx m∧t.nx m<t.nM∧t.mi (t.nx m-1)≤m∧m≤t.mi (t.nx m)∧(∀j,1≤j→j<t.nx m→t.mi j<m):=by
 have h2:=hv.1.1;obtain⟨h1,h3,h4,h5⟩:=nxF_spec (mi:=t.mi) (m:=m) (n:=t.nM-2) (i:=1) (by rw[show 1+(t.nM-2)=t.nM-1 by omega];exact hm.2);have e:nxF t.mi m (t.nM-2) 1=t.nx m:=rfl;rw[e]at h1 h3 h4 h5;refine⟨h1,by omega,?_,h4,h5⟩;rcases Nat.eq_or_lt_of_le h1 with h|h
 ·rw[←h];exact hm.1
 ·exact Int.le_of_lt (h5 (t.nx m-1) (by omega) (by omega))
theorem TD.idx_nx{t:TD}(hv:t.Valid){m:Int}(hm:t.isMin m):(if idx (fun i=>decide (m≤t.mi i)) t.nM 0>1 then idx (fun i=>decide (m≤t.mi i)) t.nM 0 else 1)=(t.nx m:Int):=by
 obtain⟨h1,h2,h3,h4,h5⟩:=t.nx_spec hv hm;by_cases h0:m≤t.mi 0
 ·rw[idx_hit (k:=0) (by omega) (fun j hj=>by omega) (by simpa using h0)];have:t.nx m=1:=by
   rcases Nat.eq_or_lt_of_le h1 with h|h
   ·exact h.symm
   ·have:=h5 1 (by omega) h;have:=hv.step (i:=1) (by omega) (by omega);simp at this;omega
  rw[this];simp
 ·rw[idx_hit (k:=t.nx m) h2 (fun j hj=>?_) (by simpa using h4)]
  ·simp only[Nat.zero_add];split<;>omega
  ·simp only[Nat.zero_add,decide_eq_false_iff_not];rcases Nat.eq_zero_or_pos j with rfl|hp
   ·exact h0
   ·have:=h5 j hp hj;omega
theorem TD.stand_spec{t:TD}(hv:t.Valid){m:Int}(hm:t.isMin m):6≤t.mi (t.nx m)-t.mi (t.nx m-1)∧t.mi (t.nx m)-t.mi (t.nx m-1)≤240∧0≤m-t.mi (t.nx m-1)∧m-t.mi (t.nx m-1)≤t.mi (t.nx m)-t.mi (t.nx m-1):=by
 obtain⟨h1,h2,h3,h4,h5⟩:=t.nx_spec hv hm;have:=hv.step (i:=t.nx m) h1 h2;have h6:=(hv.marks (i:=t.nx m) h2).1;have h7:=(hv.marks (i:=t.nx m-1) (by omega)).1;omega
def TD.sh(t:TD):SHeap:=[some (.roc [.osl t.bM 1 3 t.nM t.cM,.osl t.bS 2 2 t.nS t.cS,.osl t.bL 3 4 t.nL t.cL,.map 4]),
 some (.roa 3 t.nM (row3 t.mi t.mlo t.mhi)),some (.roa 2 t.nS (row2 t.slo t.shi)),some (.roa 4 t.nL (row4 t.lp t.lm t.llo t.lhi)),some (.memo 5 t.F []),
 some (.glob 1 [.int .i64 0,.int .i64 1,.int .i64 3,.int .i64 6,.int .i64 9,.int .i64 11,.int .i64 12])]
def okH(h:Nat→Int):Prop:= ∀i,0≤h i∧h i≤60
theorem TD.F_eq{t:TD}(hv:t.Valid){m:Int}(hm:t.isMin m)(h:Nat→Int):t.F [h 0,h 1,h 2,h 3,m]=t.stand h m:=by
 obtain⟨h1,h2,_⟩:=t.nx_spec hv hm;have h4:=hv.1.2;have e: ∀i,i<4→([h 0,h 1,h 2,h 3,m].getD i 0)=h i:=fun i hi=>by
  match i,hi with
  |0,_=>rfl
  |1,_=>rfl
  |2,_=>rfl
  |3,_=>rfl
 show t.stand (fun i=>[h 0,h 1,h 2,h 3,m].getD i 0) m=t.stand h m;simp only[TD.stand];rw[e _ (by omega),e _ (by omega)]
theorem mul_bd{a b A B:Int}(ha: -A≤a∧a≤A)(hb: -B≤b∧b≤B): -(A*B)≤a*b∧a*b≤A*B:=by
 have h1:a.natAbs≤A.natAbs:=by omega
 have h2:b.natAbs≤B.natAbs:=by omega
 have h3:=Nat.mul_le_mul h1 h2;rw[←Int.natAbs_mul,←Int.natAbs_mul]at h3;have hA:0≤A:=by omega
 have hB:0≤B:=by omega
 have h4:=Int.mul_nonneg hA hB;omega
theorem h4_get(h:Nat→Int)(k:Nat)(hk:k<4):([h 0,h 1,h 2,h 3]:List Int).getD k 0=h k:=by
 match k,hk with
 |0,_=>rfl
 |1,_=>rfl
 |2,_=>rfl
 |3,_=>rfl
theorem tw_range(q:Int):0≤tw q∧tw q≤12:=by
 unfold tw;repeat' split
 all_goals omega
theorem tw_step(q:Int):0≤tw (q+1)-tw q∧tw (q+1)-tw q≤3:=by
 unfold tw;repeat' split
 all_goals omega
theorem tw_get(q:Int)(h0:0≤q)(h6:q≤6):([0,1,3,6,9,11,12]:List Int).getD q.toNat 0=tw q:=by
 have:q=0∨q=1∨q=2∨q=3∨q=4∨q=5∨q=6:=by omega
 rcases this with rfl|rfl|rfl|rfl|rfl|rfl|rfl<;>rfl
theorem u74(t:TD)(hv:t.Valid)(h:Nat→Int)(hh:okH h)(m:Int)(hm:t.isMin m):CallP Tryz.prog 170 [.ptr 0 0,hgt h,.int .i64 m] t.sh (Ret (.int .i64 (t.stand h m)) t.sh):=by
 have hF:=TD.F_eq hv hm h;have hS:t.stand h m=t.stand h m:=rfl;conv at hS=>rhs;simp only[TD.stand]
 have hidx:=TD.idx_nx hv hm;obtain⟨k1,k2,k3,k4,_⟩:=t.nx_spec hv hm;obtain⟨g1,g2,g3,g4⟩:=TD.stand_spec hv hm;have hM:=hv.1;have hm0:=hv.marks (i:=0) (by omega);have hmk:=hv.marks k2;have hmk':=hv.marks (i:=t.nx m-1) (by omega);simp only[TD.markOk]at hm0 hmk hmk';refine callR (E:=E) E_ok Tryz.func170 rfl ?_;refine aN ?_ ?_
 ·exact sA
 refine drawP E_ok [6,7,8] pl170_2 (by kernel_rfl) ?_;refine And.intro (And.intro ?_ ⟨rfl,rfl,fun b v hb1 hb0 _=>?_⟩) trivial
 ·exact sA
 refine And.intro ?_ (And.intro rfl ?_)
 ·exact sA
 refine And.intro ?_ (And.intro (fun hc=>?_) (fun hc=>?_))
 ·exact sA
 ·refine aN ?_ ?_
  ·exact sA
  refine ent_tau [0,1,2,3,4,5] ⟨qZ0,⟨rfl,?_,trivial⟩,rfl⟩;exact congrArg (SV.int .i64) ((hb1 hc).trans hF)
 ·refine aN ?_ ?_
  ·exact sA
  refine(u113 t.bM t.nM t.cM (by omega) t.mi t.mlo t.mhi m).use [1,7] ?_ (qZ0) rfl;refine aN ?_ ?_
  ·exact sA
  rw[hidx];generalize hk:t.nx m=k at*;have e1:((k:Int)-1).toNat=k-1:=by omega
  refine drawP E_ok [6,7,8] pl170_6 (by kernel_rfl) ?_;refine aN ?_ ?_
  ·simp[AllP,under,gB,wB,inR_iff,e1];omega
  refine And.intro rfl ?_;refine aN ?_ ?_
  ·exact sA
  have e2:t.mi (0+((k:Int)-1).toNat)=t.mi (k-1):=by rw[e1,Nat.zero_add]
  have e3:t.mi (0+(k:Int).toNat)=t.mi k:=by rw[Int.toNat_natCast,Nat.zero_add]
  rw[e2,e3];generalize hfr:t.mi (k-1)=fr at*;generalize hlg:t.mi k-fr=lg at*;refine drawP E_ok [6,7,8] pl170_7 (by kernel_rfl) ?_;have hx0:0≤6*(m-fr):=by omega
  refine aN ?_ ?_
  ·simp only[AllP,under,gB,wB,inR_iff,and_true,true_and,List.nil_append,Option.getD_none,true_implies,forall_const];rw[Int.tdiv_eq_ediv_of_nonneg hx0];have:=Int.ediv_le_self lg hx0;have:=Int.ediv_nonneg hx0 (show 0≤lg by omega);omega
  refine And.intro rfl ?_;rw[Int.tdiv_eq_ediv_of_nonneg hx0,Int.tmod_eq_emod_of_nonneg hx0];have hdm:=Int.mul_ediv_add_emod (6*(m-fr)) lg;have hr0:=Int.emod_nonneg (6*(m-fr)) (show lg≠0 by omega);have hr1:=Int.emod_lt_of_pos (6*(m-fr)) (show 0<lg by omega);have hq0:=Int.ediv_nonneg hx0 (show 0≤lg by omega);have hq6:6*(m-fr)/lg≤6:=Int.ediv_le_of_le_mul (by omega) (by omega);generalize hq:6*(m-fr)/lg=q at*;generalize hr:6*(m-fr)%lg=r at*;have hq5:0<r→q≤5:=fun h0=>by
   rcases Int.lt_or_le q 6 with h1|h1
   ·omega
   ·have:q=6:=by omega
    subst this;omega
  have ht:=tw_range q;have hts:=tw_step q;have hb1':=mul_bd (a:=tw q) (b:=lg) (A:=12) (B:=240) (by omega) (by omega);have hb2':=mul_bd (a:=tw (q+1)-tw q) (b:=r) (A:=3) (B:=240) (by omega) (by omega);refine aN ?_ ?_
  ·simp only[AllP,under,gB,wB,inR_iff,and_true,true_and,List.nil_append,Option.getD_none,true_implies,forall_const];rw[tw_get q hq0 hq6];omega
  refine And.intro (fun hr=>?_) (fun hr=>?_)
  ·have hr':0<r:=by simpa using hr
   have hq5':=hq5 hr';refine aN ?_ ?_
   ·simp[AllP]
   rw[tw_get q hq0 hq6];refine drawP E_ok [6,7,8] pl170_10 (by kernel_rfl) ?_;refine aN ?_ ?_
   ·simp only[AllP,under,gB,wB,inR_iff,and_true,true_and,List.nil_append,Option.getD_none,true_implies,forall_const];rw[tw_get q hq0 hq6,tw_get (q+1) (by omega) (by omega)];omega
   refine And.intro rfl ?_;rw[tw_get q hq0 hq6,tw_get (q+1) (by omega) (by omega)];refine aN ?_ ?_
   ·exact sA
   rw[if_pos hr']at hS;have hff:0≤tw q*lg+(tw (q+1)-tw q)*r∧tw q*lg+(tw (q+1)-tw q)*r≤12*lg:=by
    have h1:=Int.mul_nonneg ht.1 (show 0≤lg by omega);have h2:=Int.mul_nonneg hts.1 hr0;have h3:(tw (q+1)-tw q)*r≤(tw (q+1)-tw q)*lg:=Int.mul_le_mul_of_nonneg_left (by omega) hts.1;have h4:tw q*lg+(tw (q+1)-tw q)*lg=tw (q+1)*lg:=by rw[←Int.add_mul];congr 1;omega
    have h5:tw (q+1)*lg≤12*lg:=Int.mul_le_mul_of_nonneg_right (tw_range _).2 (by omega);omega
   generalize hf:tw q*lg+(tw (q+1)-tw q)*r=f at*;refine drawP E_ok [6,7,8] pl170_11 (by kernel_rfl) ?_;have m1:=mul_bd (a:=h (k-1)) (b:=12*lg-f) (A:=60) (B:=2880) (by have:=hh (k-1);omega) (by omega);have m2:=mul_bd (a:=h k) (b:=f) (A:=60) (B:=2880) (by have:=hh k;omega) (by omega);have m3:0≤h (k-1)*(12*lg-f):=Int.mul_nonneg (hh (k-1)).1 (by omega);have m4:0≤h k*f:=Int.mul_nonneg (hh k).1 (by omega);have m5:0≤h (k-1)*(12*lg-f)+h k*f:=by omega
   have gk:=h4_get h k (by omega);have gk':=h4_get h (k-1) (by omega);refine And.intro (And.intro ?_ ⟨rfl,rfl,?_,?_⟩) trivial
   ·simp only[AllP,under,gB,wB,inR_iff,and_true,true_and,List.nil_append,Option.getD_none,true_implies,forall_const];rw[e1,Int.toNat_natCast,gk,gk',Int.tdiv_eq_ediv_of_nonneg m5];have m6:=Int.ediv_le_self (12*lg) m5;have m7:=Int.ediv_nonneg m5 (show 0≤12*lg by omega);omega
   ·rw[e1,Int.toNat_natCast,gk,gk',Int.tdiv_eq_ediv_of_nonneg m5,hF,hS]
   refine And.intro ?_ (And.intro rfl ?_)
   ·exact sA
   refine aN ?_ ?_
   ·exact sA
   refine drawP E_ok [6,7,8] pl170_12 (by kernel_rfl) ?_;refine And.intro (And.intro ?_ ⟨rfl,rfl,fun b v hb1 hb0 hb2=>?_⟩) trivial
   ·exact sA
   have hb:=hb2 (List.mem_cons_self ..);refine And.intro ?_ (And.intro rfl ?_)
   ·exact sA
   refine aN ?_ ?_
   ·exact sA
   refine ent_tau [0,1,2,3,4,5] ⟨qZ0,⟨rfl,?_,trivial⟩,rfl⟩;exact congrArg (SV.int .i64) ((hb1 hb).trans hF)
  ·have hr': ¬0<r:=by simpa using hr
   refine aN ?_ ?_
   ·simp[AllP]
   rw[tw_get q hq0 hq6];rw[if_neg hr',Int.add_zero]at hS;have hff:0≤tw q*lg∧tw q*lg≤12*lg:=by
    have h1:=Int.mul_nonneg ht.1 (show 0≤lg by omega);have h5:tw q*lg≤12*lg:=Int.mul_le_mul_of_nonneg_right (tw_range _).2 (by omega);omega
   generalize hf:tw q*lg=f at*;refine drawP E_ok [6,7,8] pl170_11 (by kernel_rfl) ?_;have m1:=mul_bd (a:=h (k-1)) (b:=12*lg-f) (A:=60) (B:=2880) (by have:=hh (k-1);omega) (by omega);have m2:=mul_bd (a:=h k) (b:=f) (A:=60) (B:=2880) (by have:=hh k;omega) (by omega);have m3:0≤h (k-1)*(12*lg-f):=Int.mul_nonneg (hh (k-1)).1 (by omega);have m4:0≤h k*f:=Int.mul_nonneg (hh k).1 (by omega);have m5:0≤h (k-1)*(12*lg-f)+h k*f:=by omega
   have gk:=h4_get h k (by omega);have gk':=h4_get h (k-1) (by omega);refine And.intro (And.intro ?_ ⟨rfl,rfl,?_,?_⟩) trivial
   ·simp only[AllP,under,gB,wB,inR_iff,and_true,true_and,List.nil_append,Option.getD_none,true_implies,forall_const];rw[e1,Int.toNat_natCast,gk,gk',Int.tdiv_eq_ediv_of_nonneg m5];have m6:=Int.ediv_le_self (12*lg) m5;have m7:=Int.ediv_nonneg m5 (show 0≤12*lg by omega);omega
   ·rw[e1,Int.toNat_natCast,gk,gk',Int.tdiv_eq_ediv_of_nonneg m5,hF,hS]
   refine And.intro ?_ (And.intro rfl ?_)
   ·exact sA
   refine aN ?_ ?_
   ·exact sA
   refine drawP E_ok [6,7,8] pl170_12 (by kernel_rfl) ?_;refine And.intro (And.intro ?_ ⟨rfl,rfl,fun b v hb1 hb0 hb2=>?_⟩) trivial
   ·exact sA
   have hb:=hb2 (List.mem_cons_self ..);refine And.intro ?_ (And.intro rfl ?_)
   ·exact sA
   refine aN ?_ ?_
   ·exact sA
   refine ent_tau [0,1,2,3,4,5] ⟨qZ0,⟨rfl,?_,trivial⟩,rfl⟩;exact congrArg (SV.int .i64) ((hb1 hb).trans hF)
end Go.Proofs.YthnhlkflkidemaaGreatDoor
