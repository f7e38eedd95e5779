/-
  Parts: S2, V44, V45, V46, V47.
-/
import Derived.Test.YthnhlkflkidemaaGreatDoorB1
import Derived.Test.YthnhlkflkidemaaGreatDoorB2
import Derived.Test.YthnhlkflkidemaaGreatDoorB3
import Derived.Test.YthnhlkflkidemaaGreatDoorB4
import Derived.Test.YthnhlkflkidemaaGreatDoorB5
import Derived.Test.YthnhlkflkidemaaGreatDoorB6
import Derived.Test.YthnhlkflkidemaaGreatDoorB7
import Derived.Test.YthnhlkflkidemaaGreatDoorB8
import Derived.Test.YthnhlkflkidemaaGreatDoorB9
import Derived.Test.YthnhlkflkidemaaGreatDoorB10
import Derived.Test.YthnhlkflkidemaaGreatDoorB11
import Derived.Test.YthnhlkflkidemaaGreatDoorB12
import Derived.Test.YthnhlkflkidemaaGreatDoorB13
import Derived.Test.YthnhlkflkidemaaGreatDoorB14
import Derived.Test.YthnhlkflkidemaaGreatDoorB15
import Derived.Test.YthnhlkflkidemaaGreatDoorB16
import Derived.Test.YthnhlkflkidemaaGreatDoorB17
import Derived.Test.YthnhlkflkidemaaGreatDoorB18
import Derived.Test.YthnhlkflkidemaaGreatDoorB19
import Derived.Test.YthnhlkflkidemaaGreatDoorB20
import Derived.Test.YthnhlkflkidemaaGreatDoorB21
import Derived.Test.YthnhlkflkidemaaGreatDoorB22
import Derived.Test.YthnhlkflkidemaaGreatDoorB23
import Derived.Test.YthnhlkflkidemaaGreatDoorB24
import Derived.Test.YthnhlkflkidemaaGreatDoorB25
import Derived.Test.YthnhlkflkidemaaGreatDoorB26
import Derived.Test.YthnhlkflkidemaaGreatDoorB27
import Derived.Test.YthnhlkflkidemaaGreatDoorB28
import Derived.Test.YthnhlkflkidemaaGreatDoorB29
import Derived.Test.YthnhlkflkidemaaGreatDoorB30
import Derived.Test.YthnhlkflkidemaaGreatDoorB31
import Derived.Test.YthnhlkflkidemaaGreatDoorB32
import Derived.Test.YthnhlkflkidemaaGreatDoorB33
import Derived.Test.YthnhlkflkidemaaGreatDoorB34
import Derived.Test.YthnhlkflkidemaaGreatDoorB35
import Derived.Test.YthnhlkflkidemaaGreatDoorB36
import Derived.Test.YthnhlkflkidemaaGreatDoorB37
import Derived.Test.YthnhlkflkidemaaGreatDoorB38
set_option linter.unusedVariables false
set_option linter.unusedSimpArgs false
/-
 Plain law of serves, part 2.
-/
namespace Srv
open Kuhn
/-! ### The bather before, by the document -/
instance(K:Nat→Int)(a b:Nat):Decidable (befo K a b):=inferInstanceAs (Decidable (_∨_))
/-! ### All right plans, by the document -/
/-! ### In which order -/
/-! ### The best one -/
end Srv
/-
 Contracts: a serve with some of its bathers alone. (--fast)
-/
namespace Go.Proofs.YthnhlkflkidemaaGreatDoor
open Go Go.Sy Srv Kuhn
set_option maxRecDepth 100000
set_option maxHeartbeats 4000000
attribute [local irreducible] CallP CodeP Ent YieldP
set_option maxHeartbeats 16000000
def SLs(S n:Nat):List Nat:=(List.range n).filter fun i=>S.testBit i
theorem SLs_succ(S n:Nat):SLs S (n+1)=if S.testBit n then SLs S n++[n]else SLs S n:=by
 unfold SLs;rw[List.range_succ,List.filter_append];by_cases c:S.testBit n=true
 ·rw[if_pos c];simp[c]
 ·rw[if_neg c];simp[c]
theorem SLs_len(S n:Nat):(SLs S n).length≤n:=by
 unfold SLs;refine Nat.le_trans (List.length_filter_le _ _) ?_;simp
def SD.subS(s:SD)(S c:Nat):SD:={s with n:=(SLs S s.n).length,hut:=fun k=>s.hut ((SLs S s.n).getD k 0),fr:=fun k=>s.fr ((SLs S s.n).getD k 0),to:=fun k=>s.to ((SLs S s.n).getD k 0),le:=fun k=>s.le ((SLs S s.n).getD k 0),mo:=fun k=>s.mo ((SLs S s.n).getD k 0),b:=decide (0<(SLs S s.n).length),cap:=c}
theorem subS_F(s:SD)(S c k:Nat):(s.subS S c).F k=s.F ((SLs S s.n).getD k 0):=rfl
theorem SLs_get(S:Nat){i n:Nat}(h:i<n)(hB:S.testBit i=true):(SLs S n).getD (SLs S i).length 0=i:=by
 have hp: ∃l,SLs S n=SLs S (i+1)++l:=by
  refine⟨((List.range (n-(i+1))).map (i+1+ ·)).filter fun k=>S.testBit k,?_⟩;unfold SLs;rw[←List.filter_append,←List.range_add];congr 2;omega
 obtain⟨l,hl⟩:=hp;rw[hl,SLs_succ,if_pos hB,List.getD_eq_getElem?_getD,List.append_assoc,List.getElem?_append_right (Nat.le_refl _),Nat.sub_self];rfl
theorem appF(s:SD)(m:Nat)(x:List SV)(j:Nat)(hj:j<m+1)(e:x=s.F m):selL (decide (j<m)) (s.F j) (getOf 5 (splice (repL 1 (zI 5)) (0*5) x) (0+(j-m)))=s.F j:=by
 by_cases c:j<m
 ·rw[decide_eq_true c,selL_true]
 ·obtain rfl:j=m:=by omega
  rw[decide_eq_false c,selL_false,Nat.sub_self,e];rfl
theorem t40(s:SD)(S:Nat)(hS:S<2^63)(hn:s.n≤5):CallP Tryz.prog 40 [SA s,.int .i64 (S:Nat)] (HV s) (fun ce h'=>(SLs S s.n=[]∧ce= .ret (.agg (svd (s.subS S 0) 5))∧h'=HV s)∨
  (0<(SLs S s.n).length∧ ∃c,(SLs S s.n).length≤c∧c≤9223372036854775807∧ce= .ret (.agg (svd (s.subS S c) 6))∧h'=HV s++[some (.arr 5 (SLs S s.n).length c (s.subS S c).F)])):=by
 refine callK (E:=E) E_ok Tryz.func40 rfl ?_;(repeat' first|exact aq|refine aN ?_ ?_|exact tU);all_goals try exact dd
 refine loopP E_ok [1,2,4,5,11,12] (fun x:Nat×Nat×Nat=>[(13,.int .i64 (x.1:Nat))])
  (fun x H=>match x.2.1 with
   |0=>HV s++[some .dead,some (.cells [.snil,.snil,.snil,.int .i64 0,.int .i64 0,.int .i64 0,.snil]),some (.cells [.osl s.t.bM 0 3 s.t.nM s.t.cM,.osl s.t.bS 1 2 s.t.nS s.t.cS,.osl s.t.bL 2 4 s.t.nL s.t.cL,.int .i64 s.slo,.int .i64 s.shi,.int .i64 s.pace,.snil])]
   |m+1=>HV s++[some .dead,some (.cells [.snil,.snil,.snil,.int .i64 0,.int .i64 0,.int .i64 0,.snil]),some (.cells [.osl s.t.bM 0 3 s.t.nM s.t.cM,.osl s.t.bS 1 2 s.t.nS s.t.cS,.osl s.t.bL 2 4 s.t.nL s.t.cL,.int .i64 s.slo,.int .i64 s.shi,.int .i64 s.pace,.slice 9 5 0 (m+1) x.2.2]),some (.arr 5 (m+1) x.2.2 (s.subS S x.2.2).F)])
  (fun x=>x.1≤s.n∧(SLs S x.1).length=x.2.1∧(0<x.2.1→x.2.1≤x.2.2∧x.2.2≤9223372036854775807)) (fun x=>s.n-x.1) (0,0,0) ⟨Nat.zero_le _,rfl,fun h=>absurd h (Nat.lt_irrefl 0)⟩ ?_ ?_
 ·exact ent_tau [0,1,2,3,4,5,6,7,8] ⟨fPp,tMm,rfl⟩
 rintro⟨i,m,cap⟩ ⟨hi,hm,hcap⟩;dsimp only at hi hm hcap;have ei:=z1 i;cases m with
 |zero=>
  (repeat' first|exact aq|refine aN ?_ ?_|exact tU);all_goals try exact dd
  ·intro hc;have hin:i<s.n:=by
    have:=of_decide_eq_true hc;omega
   obtain⟨B,hB⟩: ∃B,S.testBit i=B:=⟨_,rfl⟩;have hB2:decide (bitOp .and .i64 ((S:Int).fdiv (2^((i:Nat):Int).toNat)) 1=1)=B:=by
    rw[Int.toNat_natCast,has64 hS,hB]
   have hsu:=SLs_succ S i;rw[hB]at hsu;cases B with
   |true=>
    rw[if_pos rfl]at hsu;have eL:(SLs S s.n).getD 0 0=i:=by
     have:=SLs_get S hin hB;rw[hm]at this;exact this
    all_goals(repeat' first|exact aq|refine aN ?_ ?_|exact tU)
    all_goals try exact dd
    all_goals intro h2
    all_goals first|(exfalso;(try rw[hB2]at h2);exact tFx h2)|(exfalso;(try rw[hB2]at h2);exact fTx h2)|skip
    all_goals(repeat' first|exact aq|refine aN ?_ ?_|exact tU)
    all_goals try exact dd
    ·show 1*40≤140737488355328;decide
    intro c5 h51 h52;(repeat' first|exact aq|refine aN ?_ ?_|exact tU);all_goals try exact dd
    refine⟨(i+1,0+1,c5),⟨hin,by show(SLs S (i+1)).length=0+1;rw[hsu,List.length_append,hm];rfl,fun _=>⟨h51,h52⟩⟩,by simp only;omega,?_⟩;refine ent_tau [0,1,2,3,4,5,6,7,8,11] ⟨?_,tMm,rfl⟩;(repeat' first|exact fp|refine aN ?_ ?_)
    ·intro q hq;obtain rfl:q=0:=Nat.lt_one_iff.1 hq;show s.F (0+((i:Nat):Int).toNat)=(s.subS S c5).F 0;rw[subS_F,eL,ei]
   |false=>
    rw[if_neg Bool.noConfusion]at hsu;all_goals(repeat' first|exact aq|refine aN ?_ ?_|exact tU)
    all_goals try exact dd
    all_goals intro h2
    all_goals first|(exfalso;(try rw[hB2]at h2);exact tFx h2)|(exfalso;(try rw[hB2]at h2);exact fTx h2)|skip
    all_goals(repeat' first|exact aq|refine aN ?_ ?_|exact tU)
    all_goals try exact dd
    refine⟨(i+1,0,cap),⟨hin,by show(SLs S (i+1)).length=0;rw[hsu];exact hm,hcap⟩,by simp only;omega,?_⟩;exact ent_tau [0,1,2,3,4,5,6,7,8] ⟨fPp,tMm,rfl⟩
  ·intro hc;have hin:i=s.n:=by
    have:=of_decide_eq_false hc;simp only at this;omega
   subst hin;(repeat' first|exact aq|refine aN ?_ ?_|exact tU);all_goals try exact dd
   refine⟨_,_,Or.inl ⟨List.length_eq_zero_iff.1 hm,rfl,rfl⟩,?_⟩;refine Ent.trans (entV (v':= .agg [.osl s.t.bM 0 3 s.t.nM s.t.cM,.osl s.t.bS 1 2 s.t.nS s.t.cS,.osl s.t.bL 2 4 s.t.nL s.t.cL,.int .i64 s.slo,.int .i64 s.shi,.int .i64 s.pace,.osl (s.subS S 0).b 5 5 (s.subS S 0).n 0]) (fun η=>?_)) ?_
   ·have h1:(s.subS S 0).n=0:=hm;have h2:(s.subS S 0).b=false:=decide_eq_false (by rw[hm];exact Nat.lt_irrefl 0);rw[h1,h2];simp[den,denL]
   exact ent_tau [0,1,2,3,4,5] ⟨fPp,tMm,rfl⟩
 |succ m=>
  obtain⟨hc1,hc2⟩:=hcap (by omega);have hml:=SLs_len S i;(repeat' first|exact aq|refine aN ?_ ?_|exact tU);all_goals try exact dd
  ·intro hc;have hin:i<s.n:=by
    have:=of_decide_eq_true hc;omega
   obtain⟨B,hB⟩: ∃B,S.testBit i=B:=⟨_,rfl⟩;have hB2:decide (bitOp .and .i64 ((S:Int).fdiv (2^((i:Nat):Int).toNat)) 1=1)=B:=by
    rw[Int.toNat_natCast,has64 hS,hB]
   have hsu:=SLs_succ S i;rw[hB]at hsu;cases B with
   |true=>
    rw[if_pos rfl]at hsu;have eL:(SLs S s.n).getD (m+1) 0=i:=by
     have:=SLs_get S hin hB;rw[hm]at this;exact this
    all_goals(repeat' first|exact aq|refine aN ?_ ?_|exact tU)
    all_goals try exact dd
    all_goals intro h2
    all_goals first|(exfalso;(try rw[hB2]at h2);exact tFx h2)|(exfalso;(try rw[hB2]at h2);exact fTx h2)|skip
    all_goals(repeat' first|exact aq|refine aN ?_ ?_|exact tU)
    all_goals try exact dd
    ·show(m+1+1)*40≤140737488355328;omega
    ·exact fun k hk=>by
      obtain rfl:k=0:=Nat.lt_one_iff.1 hk;rfl
    intro c5 h51 h52;(repeat' first|exact aq|refine aN ?_ ?_|exact tU);all_goals try exact dd
    refine⟨(i+1,(m+1)+1,c5),⟨hin,by show(SLs S (i+1)).length=(m+1)+1;rw[hsu,List.length_append,hm];rfl,fun _=>⟨h51,h52⟩⟩,by simp only;omega,?_⟩;refine ent_tau [0,1,2,3,4,5,6,7,8,12] ⟨?_,tMm,rfl⟩;(repeat' first|exact fp|refine aN ?_ ?_)
    ·intro q hq;refine appF (s.subS S c5) (m+1) (s.F (0+((i:Nat):Int).toNat)) q hq ?_;rw[subS_F,eL,ei]
   |false=>
    rw[if_neg Bool.noConfusion]at hsu;all_goals(repeat' first|exact aq|refine aN ?_ ?_|exact tU)
    all_goals try exact dd
    all_goals intro h2
    all_goals first|(exfalso;(try rw[hB2]at h2);exact tFx h2)|(exfalso;(try rw[hB2]at h2);exact fTx h2)|skip
    all_goals(repeat' first|exact aq|refine aN ?_ ?_|exact tU)
    all_goals try exact dd
    refine⟨(i+1,(m+1),cap),⟨hin,by show(SLs S (i+1)).length=(m+1);rw[hsu];exact hm,hcap⟩,by simp only;omega,?_⟩;exact ent_tau [0,1,2,3,4,5,6,7,8,9] ⟨fPp,tMm,rfl⟩
  ·intro hc;have hin:i=s.n:=by
    have:=of_decide_eq_false hc;simp only at this;omega
   subst hin;(repeat' first|exact aq|refine aN ?_ ?_|exact tU);all_goals try exact dd
   refine⟨_,_,Or.inr ⟨by omega,cap,by omega,hc2,rfl,rfl⟩,?_⟩;refine Ent.trans (entV (v':= .agg [.osl s.t.bM 0 3 s.t.nM s.t.cM,.osl s.t.bS 1 2 s.t.nS s.t.cS,.osl s.t.bL 2 4 s.t.nL s.t.cL,.int .i64 s.slo,.int .i64 s.shi,.int .i64 s.pace,.osl (s.subS S cap).b 9 5 (s.subS S cap).n cap]) (fun η=>?_)) ?_
   ·have h1:(s.subS S cap).n=m+1:=hm;have h2:(s.subS S cap).b=true:=decide_eq_true (by rw[hm];exact Nat.succ_pos m);rw[h1,h2];simp[den,denL]
   rw[hm];refine ent_tau [0,1,2,3,4,5,9] ⟨?_,tMm,rfl⟩;(repeat' first|exact fp|refine aN ?_ ?_)
noncomputable def HSr(x:SD)(m:Nat)(F:Nat→List SV):SHeap:=[some (.roa 3 x.t.nM (row3 x.t.mi x.t.mlo x.t.mhi)),some (.roa 2 x.t.nS (row2 x.t.slo x.t.shi)),some (.roa 4 x.t.nL (row4 x.t.lp x.t.lm x.t.llo x.t.lhi)),
 some (.glob 1 [.int .i64 0,.int .i64 1,.int .i64 3,.int .i64 6,.int .i64 9,.int .i64 11,.int .i64 12]),some db,some (.roa 5 m F)]
theorem t20z(x:SD)(h0:x.n=0)(hb:x.b=false)(m:Nat)(y:SD):CallP Tryz.prog 20 [SA x] (HSr x m y.F) (Ret (.tup [.int .i64 (x.countT).1,.int .i64 (x.countT).2]) (HSr x m y.F)):=by
 have c:=t20 x;refine CallP.ent (CallP.pre (args':=[.agg (svd x 6)]) (h':=HSr x m y.F++[some (.roa 5 0 x.F)]) (Ent.trans (entTm (T':=argT [.agg (svd x 6)]) ⟨rfl,fun η=>?_,trivial⟩) (entAlias (i:=5) rfl 5 x.F)) (CallP.frameH c [0,1,2,3,4,6] ?_ rfl ?_))
 ·show den η (.agg (svd x 5))=den η (.agg (svd x 6));unfold svd;rw[hb];simp[den,denL]
 ·(repeat' first|exact fp|refine aN ?_ ?_);all_goals first|exact h0.symm|exact h0|skip
 rintro ce h' ⟨rfl,rfl⟩;refine⟨rfl,_,_,⟨rfl,rfl⟩,?_⟩;exact ent_tau [0,1,2,3,4,5] ⟨fPp,tMm,rfl⟩
noncomputable def SD.canB(s:SD)(S:Nat):Bool:=decide ((s.subS S 0).countT.2=0)&&decide ((s.subS S 0).countT.1>0)
theorem cnt_cap(s:SD)(S c:Nat):(s.subS S c).countT=(s.subS S 0).countT:=rfl
theorem t39(s:SD)(S:Nat)(hS:S<2^63)(hn:s.n≤5):CallP Tryz.prog 39 [.int .i64 (S:Nat),.ptr 6 0] (HS s++[some (.roc (svd s 5))]) (Ret (.bool (s.canB S)) (HS s++[some (.roc (svd s 5))])):=by
 have c40:=t40 s S hS hn;have hcc:=cnt_cap s S;unfold SD.canB;obtain⟨A,hA⟩: ∃A,(s.subS S 0).countT=A:=⟨_,rfl⟩;rw[hA]at hcc⊢;obtain⟨a,e⟩:=A;dsimp only;refine callR (E:=E) E_ok Tryz.func39 rfl ?_;(repeat' first|exact aq|refine aN ?_ ?_|exact tU);all_goals try exact dd
 refine CallP.frameH c40 [0,1,2,3,4,5] (fPp) rfl ?_;rintro ce h' (⟨h0,rfl,rfl⟩|⟨h0,c,h1,h2,rfl,rfl⟩)
 ·have cz:=t20z (s.subS S 0) (by show(SLs S s.n).length=0;rw[h0];rfl) (decide_eq_false (by rw[h0];exact Nat.lt_irrefl 0)) s.n s;rw[hA]at cz;dsimp only at cz;refine⟨rfl,?_⟩;(repeat' first|exact aq|refine aN ?_ ?_|exact tU);all_goals try exact dd
  refine cz.use [0,1,2,3,4,5] ?_ (fPp) rfl;(repeat' first|exact aq|refine aN ?_ ?_|exact tU);all_goals try exact dd
  refine ent_tau [0,1,2,3,4,5,6] ⟨fPp,⟨rfl,congrArg SV.bool ?_,trivial⟩,rfl⟩;cases decide (e=0)<;>rfl
 ·have cz:=t20 (s.subS S c);rw[hcc]at cz;dsimp only at cz;refine⟨rfl,?_⟩;(repeat' first|exact aq|refine aN ?_ ?_|exact tU);all_goals try exact dd
  refine cz.use [0,1,2,3,4,7] ?_ (fPp) rfl;(repeat' first|exact aq|refine aN ?_ ?_|exact tU);all_goals try exact dd
  refine ent_tau [0,1,2,3,4,5,6] ⟨fPp,⟨rfl,congrArg SV.bool ?_,trivial⟩,rfl⟩;cases decide (e=0)<;>rfl
/-! ### What that is -/
theorem SLs_mem{S n i:Nat} :i∈SLs S n↔i<n∧S.testBit i=true:=by
 unfold SLs;rw[List.mem_filter,List.mem_range]
theorem SLs_pw(S n:Nat):(SLs S n).Pairwise (· < ·):=List.Pairwise.filter _ List.pairwise_lt_range
theorem subS_valid{s:SD}(hv:s.Valid)(S c:Nat):(s.subS S c).Valid:=by
 refine⟨hv.1,hv.2.1,hv.2.2.1,Nat.le_trans (SLs_len S s.n) hv.2.2.2.1,fun i hi=>?_⟩;have h1:(SLs S s.n).getD i 0∈SLs S s.n:=gd_mem hi;exact hv.2.2.2.2 _ (SLs_mem.1 h1).1
theorem subS_oe{s:SD}(hv:s.Valid)(S c:Nat):(s.subS S c).oe true=s.oe true:=by
 unfold SD.oe;rw[if_neg (show¬ ¬(s.subS S c).Valid from fun h=>h (subS_valid hv S c)),if_neg (show¬ ¬s.Valid from fun h=>h hv)];rfl
theorem subS_via{s:SD}(S c:Nat):Via (s.subS S c).sb s.sb (fun i=>(SLs S s.n).getD i 0):=by
 have hl: ∀i,i∈SLs S s.n→i<s.sb.n:=fun i hi=>(SLs_mem.1 hi).1
 have V:=sub_via s.sb (SLs_pw S s.n) hl;refine⟨V.w,V.sh,V.lt,V.inj,V.hut,V.fr,V.to,fun i p hi=>?_,V.befo⟩;have hi:i<(SLs S s.n).length:=hi;have h2:(SLs S s.n).getD i 0<s.n:=hl _ (gd_mem hi);show((s.subS S c).RM i).testBit p=(s.RM ((SLs S s.n).getD i 0)).testBit p;unfold SD.RM;rw[if_pos h2,if_pos (show i<(s.subS S c).n from hi)];rfl
theorem canB_is{s:SD}(hv:s.Valid)(h0:s.oe true=0)(S:Nat):s.canB S=s.sb.can S:=by
 have hV:=hv.vldM;have hX:=(subS_valid hv S 0).vldM;have hxe:=(subS_oe hv S 0).trans h0;unfold SD.canB;rw[count_sb hxe];dsimp only;have h1:0<((s.subS S 0).sb.plans allB).length↔s.sb.can S=true:=by
  rw[count_pos];rw[(subS_via (s:=s) S 0).can hV.t hV.s hX.t hX.s (S:=S) (T:=2^(s.subS S 0).sb.n-1) (fun i hi _=>?_) (fun j hj hb=>?_)]
  ·exact(SLs_mem.1 (gd_mem hi)).2
  ·have hm:j∈SLs S s.n:=SLs_mem.2 ⟨hj,hb⟩;have hi:=List.idxOf_lt_length_of_mem hm;exact⟨(SLs S s.n).idxOf j,hi,gd_idx hm,by rw[every_bit];exact decide_eq_true hi⟩
 by_cases c:s.sb.can S=true
 ·rw[c,decide_eq_true rfl,Bool.true_and];have:=h1.2 c;exact decide_eq_true (by omega)
 ·have h2: ¬0<((s.subS S 0).sb.plans allB).length:=fun h=>c (h1.1 h)
  rw[Bool.not_eq_true]at c;rw[c,decide_eq_true rfl,Bool.true_and];exact decide_eq_false (by omega)
theorem oe_two{s:SD}(hv:s.Valid):(s.oe true=0∨s.oe true=10):=by
 unfold SD.oe;rw[if_neg (show¬ ¬s.Valid from fun h=>h hv),if_neg (show¬true=false from Bool.noConfusion)];split
 ·exact .inr rfl
 ·exact .inl rfl
structure Dr(s:SD)(D N:Nat)(P:Bool)(f:Int×Int):Prop where
 drop:s.sb.IsDrop D
 p1:decide (((D:Nat):Int)=0)=P
 p2:decide (((N:Nat):Int)>0)=P
 fst:(P=true∧f=(0,4))∨(P=false∧ ∃j:Nat,j<s.n∧f=((j:Int),0)∧s.sb.can (2^(j+1)-1)=false∧s.sb.can (2^j-1)=true)
theorem dr_is{s:SD}(hv:s.Valid)(h0:s.oe true=0): ∃D N P f,s.dropT=(((D:Nat):Int),0)∧s.countT=(((N:Nat):Int),0)∧s.firstT=f∧Dr s D N P f:=by
 have hV:=hv.vldM;refine⟨_,_,s.sb.can (2^s.n-1),_,drop_sb hv h0,count_sb h0,first_sb h0,⟨drop_is hV.t hV.s hv.2.2.2.1,?_,?_,?_⟩⟩
 ·have h1:=drop_none (drop_is hV.t hV.s hv.2.2.2.1) hv.2.2.2.1;have h1:s.sb.dropF=0↔s.sb.can (2^s.n-1)=true:=h1;by_cases c:s.sb.dropF=0
  ·rw[h1.1 c,c];rfl
  ·have h2:s.sb.can (2^s.n-1)=false:=by
    rw[←Bool.not_eq_true];exact fun h=>c (h1.2 h)
   rw[h2];exact decide_eq_false (by omega)
 ·have h1:=count_pos s.sb;have h1:0<(s.sb.plans allB).length↔s.sb.can (2^s.n-1)=true:=h1;by_cases c:0<(s.sb.plans allB).length
  ·rw[h1.1 c];exact decide_eq_true (by omega)
  ·have h2:s.sb.can (2^s.n-1)=false:=by
    rw[←Bool.not_eq_true];exact fun h=>c (h1.2 h)
   rw[h2];exact decide_eq_false (by omega)
 ·cases hf:s.sb.firstF with
  |none=>exact .inl ⟨(first_none hV.t hV.s).1 hf,rfl⟩
  |some j=>
   obtain⟨h1,h2,h3⟩:=first_some hV.t hV.s hf;refine .inr ⟨?_,j,h1,rfl,h2,h3⟩;rw[←Bool.not_eq_true];intro h;have:=(first_none hV.t hV.s).2 h;have e:s.sb.firstF=none:=this;rw[hf]at e;cases e
theorem every_int{n:Nat}(hn:n≤5):(1:Int)*2^((n:Nat):Int).toNat-1=((2^n-1:Nat):Int):=by
 have h1:(1:Int)*2^((n:Nat):Int).toNat=((2^n:Nat):Int):=pow_int n;have h3:0<2^n:=Nat.pow_pos (by decide);rw[h1];generalize 2^n=m at h3;omega
theorem can39{s:SD}(hv:s.Valid)(h0:s.oe true=0){x:Int}(T:Nat)(hx:x=((T:Nat):Int))(hT:T<2^s.n):CallP Tryz.prog 39 [.int .i64 x,.ptr 6 0] (HS s++[some (.roc (svd s 5))]) (Ret (.bool (s.sb.can T)) (HS s++[some (.roc (svd s 5))])):=by
 have h32:2^s.n≤32:=Nat.pow_le_pow_right (n:=2) (by decide) hv.2.2.2.1;rw[hx,←canB_is hv h0];exact t39 s T (by omega) hv.2.2.2.1
def tm7(s:SD)(b D:Nat)(x7 x8:Option (Option Bool×SV)):Tm:=[none,some (none,.int .u8 (b:Nat)),some (none,.ptr 6 0),none,none,some (none,.int .i64 (D:Nat)),none,x7,x8,none,none,some (none,.fn (.func 39) [] [.ptr 6 0]),some (none,.int .i64 (1*2^((s.n:Nat):Int).toNat-1))]++List.replicate 180 none
theorem seg7c(s:SD)(hv:s.Valid)(h0:s.oe true=0)(b D:Nat)(hb:b≤255)(hd:s.sb.IsDrop D):CodeP Tryz.prog none 6 (sufC Tryz.f7 11) ⟨tm7 s b D none none,HS s++[some (.cells (svd s 5))],[]⟩ (KRet E Tryz.f7 6 (.bool true) (HS s)):=by
 have hn5:=hv.2.2.2.1;have hev:=every_int hn5;have hDl:D<2^s.n:=hd.lt;have h32:2^s.n≤32:=Nat.pow_le_pow_right (n:=2) (by decide) hn5;have hp0:=Nat.two_pow_pos s.n;obtain⟨O,hO⟩: ∃O,b&&&(2^s.n-1)=O:=⟨_,rfl⟩;have hOl:O<2^s.n:=by
  rw[←hO];exact Nat.and_lt_two_pow _ (by omega)
 have eO:bitOp .and .i64 ((b:Nat):Int) (1*2^((s.n:Nat):Int).toNat-1)=((O:Nat):Int):=by
  rw[hev,and64 (by omega) (by omega),hO]
 have cO:=can39 hv h0 (x:=bitOp .andNot .i64 (1*2^((s.n:Nat):Int).toNat-1) (bitOp .and .i64 ((b:Nat):Int) (1*2^((s.n:Nat):Int).toNat-1))) (restS s.n O) (by rw[eO,hev,andNot64 (by omega),rest_sdiff hn5 hOl]) (rest_lt _ _);obtain⟨C,hC⟩: ∃C,s.sb.can (restS s.n O)=C:=⟨_,rfl⟩;rw[hC]at cO;have zD:=t41 D (by omega);have zO:=t41 O (by omega);rw[←eO]at zO;refine codeP_XK E_ok 50 ?_;(repeat' first|exact aq|refine aN ?_ ?_|exact tU);all_goals try exact dd
 refine cO.use [0,1,2,3,4,5,6] ?_ (fPp) rfl;cases C with
 |false=>
  all_goals(repeat' first|exact aq|refine aN ?_ ?_|exact tU)
  all_goals try exact dd
  all_goals intro h1
  all_goals first|(exfalso;exact tFx h1)|(exfalso;exact fTx h1)|skip
  all_goals(repeat' first|exact aq|refine aN ?_ ?_|exact tU)
  all_goals try exact dd
  all_goals intro h2
  all_goals first|(exfalso;exact tFx h2)|(exfalso;exact fTx h2)|skip
  all_goals(repeat' first|exact aq|refine aN ?_ ?_|exact tU)
  all_goals try exact dd
  all_goals intro h3
  all_goals first|(exfalso;exact tFx h3)|(exfalso;exact fTx h3)|skip
  all_goals(repeat' first|exact aq|refine aN ?_ ?_|exact tU)
  all_goals try exact dd
  all_goals intro h4
  all_goals first|(exfalso;exact tFx h4)|(exfalso;exact fTx h4)|skip
  all_goals(repeat' first|exact aq|refine aN ?_ ?_|exact tU)
  all_goals try exact dd
  all_goals intro h5
  all_goals first|(exfalso;exact tFx h5)|(exfalso;exact fTx h5)|skip
  all_goals(repeat' first|exact aq|refine aN ?_ ?_|exact tU)
  all_goals try exact dd
  refine t15.use [3,4] ?_ (fPp) rfl;(repeat' first|exact aq|refine aN ?_ ?_|exact tU);all_goals try exact dd
  exact ent_tau [0,1,2,3,4,5] ⟨fPp,tMm,rfl⟩
 |true=>
  have hmin:=hd.min O hOl hC;obtain⟨G,hG⟩: ∃G,decide (((pop O:Nat):Int)>(pop D:Nat))=G:=⟨_,rfl⟩;all_goals(repeat' first|exact aq|refine aN ?_ ?_|exact tU)
  all_goals try exact dd
  all_goals intro h1
  all_goals first|(exfalso;exact tFx h1)|(exfalso;exact fTx h1)|skip
  all_goals(repeat' first|exact aq|refine aN ?_ ?_|exact tU)
  all_goals try exact dd
  refine zO.use [] ?_ trivial rfl;all_goals(repeat' first|exact aq|refine aN ?_ ?_|exact tU)
  all_goals try exact dd
  all_goals intro h2
  all_goals first|(exfalso;exact tFx h2)|(exfalso;exact fTx h2)|skip
  refine zD.use [] ?_ trivial rfl;cases G with
  |true=>
   all_goals(repeat' first|exact aq|refine aN ?_ ?_|exact tU)
   all_goals try exact dd
   all_goals intro h3
   all_goals first|(exfalso;(try rw[hG]at h3);exact tFx h3)|(exfalso;(try rw[hG]at h3);exact fTx h3)|skip
   all_goals(repeat' first|exact aq|refine aN ?_ ?_|exact tU)
   all_goals try exact dd
   all_goals intro h4
   all_goals first|(exfalso;(try rw[hG]at h4);exact tFx h4)|(exfalso;(try rw[hG]at h4);exact fTx h4)|skip
   all_goals(repeat' first|exact aq|refine aN ?_ ?_|exact tU)
   all_goals try exact dd
   all_goals intro h5
   all_goals first|(exfalso;(try rw[hG]at h5);exact tFx h5)|(exfalso;(try rw[hG]at h5);exact fTx h5)|skip
   all_goals(repeat' first|exact aq|refine aN ?_ ?_|exact tU)
   all_goals try exact dd
   refine t15.use [3,4] ?_ (fPp) rfl;(repeat' first|exact aq|refine aN ?_ ?_|exact tU);all_goals try exact dd
   refine ent_tau [0,1,2,3,4,5] ⟨fPp,⟨rfl,congrArg SV.bool ?_,trivial⟩,rfl⟩;rw[hG];rfl
  |false=>
   have hG2:=of_decide_eq_false hG;have g3:decide (((pop O:Nat):Int)=(pop D:Nat))=true:=decide_eq_true (by rcases hmin with h|h|h<;>first|(subst h;rfl)|omega);have g4:decide (bitOp .and .i64 ((b:Nat):Int) (1*2^((s.n:Nat):Int).toNat-1)≥((D:Nat):Int))=true:=decide_eq_true (by rw[eO];rcases hmin with h|h|h<;>omega);all_goals(repeat' first|exact aq|refine aN ?_ ?_|exact tU)
   all_goals try exact dd
   all_goals intro h3
   all_goals first|(exfalso;(try rw[hG]at h3);exact tFx h3)|(exfalso;(try rw[hG]at h3);exact fTx h3)|skip
   refine zO.use [] ?_ trivial rfl;all_goals(repeat' first|exact aq|refine aN ?_ ?_|exact tU)
   all_goals try exact dd
   all_goals intro h4
   all_goals first|(exfalso;(try rw[hG]at h4);exact tFx h4)|(exfalso;(try rw[hG]at h4);exact fTx h4)|skip
   refine zD.use [] ?_ trivial rfl;all_goals(repeat' first|exact aq|refine aN ?_ ?_|exact tU)
   all_goals try exact dd
   all_goals intro h5
   all_goals first|(exfalso;(try rw[hG]at h5);(try rw[g3]at h5);(try rw[g4]at h5);exact tFx h5)|(exfalso;(try rw[hG]at h5);(try rw[g3]at h5);(try rw[g4]at h5);exact fTx h5)|skip
   all_goals(repeat' first|exact aq|refine aN ?_ ?_|exact tU)
   all_goals try exact dd
   refine t15.use [3,4] ?_ (fPp) rfl;(repeat' first|exact aq|refine aN ?_ ?_|exact tU);all_goals try exact dd
   refine ent_tau [0,1,2,3,4,5] ⟨fPp,⟨rfl,congrArg SV.bool ?_,trivial⟩,rfl⟩;rw[hG,g3,g4];rfl
theorem seg7b(s:SD)(hv:s.Valid)(h0:s.oe true=0)(b D:Nat)(hb:b≤255)(hd:s.sb.IsDrop D)(f1 f2:Int)(hf:(f1=0∧f2=4)∨ ∃j:Nat,j<s.n∧f1=(j:Nat)∧f2=0∧s.sb.can (2^(j+1)-1)=false∧s.sb.can (2^j-1)=true):
  CodeP Tryz.prog none 6 (sufC Tryz.f7 9) ⟨tm7 s b D (some (none,.int .i64 f1)) (some (none,.int .i64 f2)),HS s++[some (.cells (svd s 5))],[]⟩ (KRet E Tryz.f7 6 (.bool true) (HS s)):=by
 have hn5:=hv.2.2.2.1;have hev:=every_int hn5;have hDl:D<2^s.n:=hd.lt;have h32:2^s.n≤32:=Nat.pow_le_pow_right (n:=2) (by decide) hn5;have hp0:=Nat.two_pow_pos s.n;refine codeP_XK E_ok 2 ?_;(repeat' first|exact aq|refine aN ?_ ?_|exact tU);all_goals try exact dd
 refine loopP E_ok [1,2,5,7,8,11,12,109] (fun i:Nat=>[(110,.int .i64 (i:Nat))]) (fun _ H=>H) (fun i=>i≤s.n) (fun i=>s.n-i) 0 (Nat.zero_le _) ?_ ?_
 ·exact ent_tau [0,1,2,3,4,5,6] ⟨fPp,tMm,rfl⟩
 rintro i hi;refine And.intro ?_ (And.intro (fun hb1=>?_) (fun hb1=>?_))
 ·(repeat' first|exact aq|refine aN ?_ ?_|exact tU)
 ·have hin:i<s.n:=by
   have:=of_decide_eq_true hb1;omega
  have pw:=p2i (show i<5 by omega);obtain⟨B,hB⟩: ∃B,D.testBit i=B:=⟨_,rfl⟩;have hB2:decide (bitOp .and .i64 (((D:Nat):Int).fdiv (2^((i:Nat):Int).toNat)) 1=1)=B:=by
   rw[Int.toNat_natCast,has64 (by omega),hB]
  cases B with
  |true=>
   have h2i:2^i<2^s.n:=Nat.pow_lt_pow_right (by decide) hin;have hT:restS s.n D|||2^i<2^s.n:=Nat.or_lt_two_pow (rest_lt _ _) h2i;have e1:(1:Int)*2^((i:Nat):Int).toNat=((2^i:Nat):Int):=pow_int i;have c39b:=can39 hv h0 (x:=bitOp .or .i64 (bitOp .andNot .i64 (1*2^((s.n:Nat):Int).toNat-1) ((D:Nat):Int)) (1*2^((i:Nat):Int).toNat)) (restS s.n D|||2^i) (by
    have:=rest_lt s.n D;rw[hev,andNot64 (by omega),rest_sdiff hn5 hDl,e1,or64 (by omega) (by omega)]) hT
   rw[drop_less hd hn5 hB (T:=restS s.n D|||2^i) (fun k hk=>by
    rw[Nat.testBit_or,Nat.testBit_two_pow];show((restS s.n D).testBit k||decide (i=k))=((restS s.n D).testBit k||decide (k=i));rw[show decide (i=k)=decide (k=i)from by rw[decide_eq_decide];exact eq_comm])]at c39b
   all_goals(repeat' first|exact aq|refine aN ?_ ?_|exact tU)
   all_goals try exact dd
   all_goals intro h5
   all_goals first|(exfalso;(try rw[hB2]at h5);exact tFx h5)|(exfalso;(try rw[hB2]at h5);exact fTx h5)|skip
   refine c39b.use [0,1,2,3,4,5,6] ?_ (fPp) rfl;all_goals(repeat' first|exact aq|refine aN ?_ ?_|exact tU)
   all_goals try exact dd
   all_goals intro h6
   all_goals first|(exfalso;(try rw[hB2]at h6);exact tFx h6)|(exfalso;(try rw[hB2]at h6);exact fTx h6)|skip
   all_goals(repeat' first|exact aq|refine aN ?_ ?_|exact tU)
   all_goals try exact dd
   refine⟨i+1,hin,by omega,?_⟩;exact ent_tau [0,1,2,3,4,5,6] ⟨fPp,tMm,rfl⟩
  |false=>
   all_goals(repeat' first|exact aq|refine aN ?_ ?_|exact tU)
   all_goals try exact dd
   all_goals intro h5
   all_goals first|(exfalso;(try rw[hB2]at h5);exact tFx h5)|(exfalso;(try rw[hB2]at h5);exact fTx h5)|skip
   all_goals(repeat' first|exact aq|refine aN ?_ ?_|exact tU)
   all_goals try exact dd
   ·exact fun hh=>absurd (hB2.symm.trans hh) Bool.noConfusion
   all_goals(repeat' first|exact aq|refine aN ?_ ?_|exact tU)
   all_goals try exact dd
   all_goals intro h6
   all_goals first|(exfalso;(try rw[hB2]at h6);exact tFx h6)|(exfalso;(try rw[hB2]at h6);exact fTx h6)|skip
   all_goals(repeat' first|exact aq|refine aN ?_ ?_|exact tU)
   all_goals try exact dd
   refine⟨i+1,hin,by omega,?_⟩;exact ent_tau [0,1,2,3,4,5,6] ⟨fPp,tMm,rfl⟩
 ·rcases hf with⟨rfl,rfl⟩|⟨j,hj,rfl,rfl,hf1,hf2⟩
  ·(repeat' first|exact aq|refine aN ?_ ?_|exact tU);all_goals try exact dd
   ·exact u1 ⟨by decide,by decide⟩
   ·exact u1 ⟨by decide,by decide⟩
   all_goals(repeat' first|exact aq|refine aN ?_ ?_|exact tU)
   all_goals try exact dd
   all_goals intro k1
   all_goals first|(exfalso;exact tFx k1)|(exfalso;exact fTx k1)|skip
   all_goals(repeat' first|exact aq|refine aN ?_ ?_|exact tU)
   all_goals try exact dd
   all_goals intro k2
   all_goals first|(exfalso;exact tFx k2)|(exfalso;exact fTx k2)|skip
   all_goals(repeat' first|exact aq|refine aN ?_ ?_|exact tU)
   all_goals try exact dd
   all_goals intro k3
   all_goals first|(exfalso;exact tFx k3)|(exfalso;exact fTx k3)|skip
   all_goals(repeat' first|exact aq|refine aN ?_ ?_|exact tU)
   all_goals try exact dd
   all_goals first|exact u1 ⟨by decide,by decide⟩|skip
   refine CodeP.part (seg7c s hv h0 b D hb hd) ?_;exact ent_tau [0,1,2,3,4,5,6] ⟨fPp,tMm,rfl⟩
  ·have e1:(1:Int)*2^((j:Nat):Int).toNat=((2^j:Nat):Int):=pow_int j;have pw:=p2i (show j<5 by omega);have hj2:2^j<2^s.n:=Nat.pow_lt_pow_right (by decide) hj;have hj3:2^(j+1)≤2^s.n:=Nat.pow_le_pow_right (by decide) hj;have hjp:=Nat.two_pow_pos j;have c1:=can39 hv h0 (x:=1*2^((j:Nat):Int).toNat-1) (2^j-1) (by rw[e1];omega) (by omega);rw[hf2]at c1;have c2:=can39 hv h0 (x:=2*2^((j:Nat):Int).toNat-1) (2^(j+1)-1) pw.2.2.1.symm (by omega);rw[hf1]at c2;have f1:decide (((j:Nat):Int)<0)=false:=decide_eq_false (by omega);have f2:decide (((j:Nat):Int)≥(s.n:Nat))=false:=decide_eq_false (by omega);(repeat' first|exact aq|refine aN ?_ ?_|exact tU);all_goals try exact dd
   all_goals(repeat' first|exact aq|refine aN ?_ ?_|exact tU)
   all_goals try exact dd
   all_goals intro k1
   all_goals first|(exfalso;(try rw[f1]at k1);(try rw[f2]at k1);exact tFx k1)|(exfalso;(try rw[f1]at k1);(try rw[f2]at k1);exact fTx k1)|skip
   refine c1.use [0,1,2,3,4,5,6] ?_ (fPp) rfl;all_goals(repeat' first|exact aq|refine aN ?_ ?_|exact tU)
   all_goals try exact dd
   all_goals intro k2
   all_goals first|(exfalso;(try rw[f1]at k2);(try rw[f2]at k2);exact tFx k2)|(exfalso;(try rw[f1]at k2);(try rw[f2]at k2);exact fTx k2)|skip
   refine c2.use [0,1,2,3,4,5,6] ?_ (fPp) rfl;all_goals(repeat' first|exact aq|refine aN ?_ ?_|exact tU)
   all_goals try exact dd
   all_goals intro k3
   all_goals first|(exfalso;(try rw[f1]at k3);(try rw[f2]at k3);exact tFx k3)|(exfalso;(try rw[f1]at k3);(try rw[f2]at k3);exact fTx k3)|skip
   all_goals(repeat' first|exact aq|refine aN ?_ ?_|exact tU)
   all_goals try exact dd
   refine CodeP.part (seg7c s hv h0 b D hb hd) ?_;exact ent_tau [0,1,2,3,4,5,6] ⟨fPp,tMm,rfl⟩
theorem t7(s:SD)(ht:s.t.ok)(b:Int)(hb:0≤b∧b≤255):CallP Tryz.prog 7 [SA s,.int .u8 b] (HS s) (Ret (.bool true) (HS s)):=by
 obtain⟨b,rfl⟩: ∃n:Nat,b=n:=⟨b.toNat,by omega⟩;have c38:=t38 s ht;obtain⟨A,hA⟩: ∃A,s.fineB=A:=⟨_,rfl⟩;rw[hA]at c38;have c32:=t32 s;have c30:=t30 s;have c20:=t20 s;cases A with
 |false=>
  refine callR (E:=E) E_ok Tryz.func7 rfl ?_;(repeat' first|exact aq|refine aN ?_ ?_|exact tU);all_goals try exact dd
  refine c38.use [0,1,2,3,4,5] ?_ (fPp) rfl;all_goals(repeat' first|exact aq|refine aN ?_ ?_|exact tU)
  all_goals try exact dd
  all_goals intro h1
  all_goals first|exact absurd h1 (by decide)|(cases h1;done)|skip
  all_goals(repeat' first|exact aq|refine aN ?_ ?_|exact tU)
  all_goals try exact dd
  refine t15.use [3,4] ?_ (fPp) rfl;(repeat' first|exact aq|refine aN ?_ ?_|exact tU);all_goals try exact dd
  exact ent_tau [0,1,2,3,4,5] ⟨fPp,tMm,rfl⟩
 |true=>
  have hv:=fine_yes hA;have hn5:=hv.2.2.2.1;rcases oe_two hv with h0|h0
  ·obtain⟨D,N,P,f,e1,e2,e3,hd⟩:=dr_is hv h0;rw[e1]at c32;rw[e2]at c20;rw[e3]at c30;have hev:=every_int hn5;have hDl:D<2^s.n:=hd.drop.lt;have h32:2^s.n≤32:=Nat.pow_le_pow_right (n:=2) (by decide) hn5;dsimp only at c32 c20;have g1:decide (((D:Nat):Int)<0)=false:=decide_eq_false (by omega);have g2:decide (((D:Nat):Int)>1*2^((s.n:Nat):Int).toNat-1)=false:=decide_eq_false (by rw[hev];omega);have c39a:=can39 hv h0 (x:=bitOp .andNot .i64 (1*2^((s.n:Nat):Int).toNat-1) ((D:Nat):Int)) (restS s.n D) (by rw[hev,andNot64 (by omega),rest_sdiff hn5 hDl]) (rest_lt _ _);rw[show s.sb.can (restS s.n D)=true from hd.drop.can]at c39a;have q1:=hd.p1;have q2:=hd.p2;rcases hd.fst with⟨hP,rfl⟩|⟨hP,j,hj,rfl,hf1,hf2⟩
   ·subst hP;dsimp only at c30;refine callRK (E:=E) E_ok 9 Tryz.func7 rfl ?_;(repeat' first|exact aq|refine aN ?_ ?_|exact tU);all_goals try exact dd
    refine c38.use [0,1,2,3,4,5] ?_ (fPp) rfl;all_goals(repeat' first|exact aq|refine aN ?_ ?_|exact tU)
    all_goals try exact dd
    all_goals intro h1
    all_goals first|exact absurd h1 (by decide)|(cases h1;done)|skip
    all_goals(repeat' first|exact aq|refine aN ?_ ?_|exact tU)
    all_goals try exact dd
    refine c32.use [0,1,2,3,4,5] ?_ (fPp) rfl;(repeat' first|exact aq|refine aN ?_ ?_|exact tU);all_goals try exact dd
    refine c30.use [0,1,2,3,4,5] ?_ (fPp) rfl;(repeat' first|exact aq|refine aN ?_ ?_|exact tU);all_goals try exact dd
    refine c20.use [0,1,2,3,4,5] ?_ (fPp) rfl;all_goals(repeat' first|exact aq|refine aN ?_ ?_|exact tU)
    all_goals try exact dd
    all_goals intro h2
    all_goals first|exact absurd h2 (by decide)|(cases h2;done)|skip
    all_goals(repeat' first|exact aq|refine aN ?_ ?_|exact tU)
    all_goals try exact dd
    all_goals intro h3
    all_goals first|(exfalso;(try rw[g1]at h3);(try rw[g2]at h3);exact tFx h3)|(exfalso;(try rw[g1]at h3);(try rw[g2]at h3);exact fTx h3)|skip
    refine c39a.use [0,1,2,3,4,5,6] ?_ (fPp) rfl;all_goals(repeat' first|exact aq|refine aN ?_ ?_|exact tU)
    all_goals try exact dd
    all_goals intro h4
    all_goals first|(exfalso;(try rw[g1]at h4);(try rw[g2]at h4);(try rw[q1]at h4);(try rw[q2]at h4);exact tFx h4)|(exfalso;(try rw[g1]at h4);(try rw[g2]at h4);(try rw[q1]at h4);(try rw[q2]at h4);exact fTx h4)|skip
    all_goals(repeat' first|exact aq|refine aN ?_ ?_|exact tU)
    all_goals try exact dd
    ·intro _;rw[g1,g2,q1,q2];rfl
    refine CodeP.pre ?_ (seg7b s hv h0 b D (by omega) hd.drop _ _ (Or.inl ⟨rfl,rfl⟩));exact ent_tau [0,1,2,3,4,5,6] ⟨fPp,tMm,rfl⟩
   ·subst hP;dsimp only at c30;refine callRK (E:=E) E_ok 9 Tryz.func7 rfl ?_;(repeat' first|exact aq|refine aN ?_ ?_|exact tU);all_goals try exact dd
    refine c38.use [0,1,2,3,4,5] ?_ (fPp) rfl;all_goals(repeat' first|exact aq|refine aN ?_ ?_|exact tU)
    all_goals try exact dd
    all_goals intro h1
    all_goals first|exact absurd h1 (by decide)|(cases h1;done)|skip
    all_goals(repeat' first|exact aq|refine aN ?_ ?_|exact tU)
    all_goals try exact dd
    refine c32.use [0,1,2,3,4,5] ?_ (fPp) rfl;(repeat' first|exact aq|refine aN ?_ ?_|exact tU);all_goals try exact dd
    refine c30.use [0,1,2,3,4,5] ?_ (fPp) rfl;(repeat' first|exact aq|refine aN ?_ ?_|exact tU);all_goals try exact dd
    refine c20.use [0,1,2,3,4,5] ?_ (fPp) rfl;all_goals(repeat' first|exact aq|refine aN ?_ ?_|exact tU)
    all_goals try exact dd
    all_goals intro h2
    all_goals first|exact absurd h2 (by decide)|(cases h2;done)|skip
    all_goals(repeat' first|exact aq|refine aN ?_ ?_|exact tU)
    all_goals try exact dd
    all_goals intro h3
    all_goals first|(exfalso;(try rw[g1]at h3);(try rw[g2]at h3);exact tFx h3)|(exfalso;(try rw[g1]at h3);(try rw[g2]at h3);exact fTx h3)|skip
    refine c39a.use [0,1,2,3,4,5,6] ?_ (fPp) rfl;all_goals(repeat' first|exact aq|refine aN ?_ ?_|exact tU)
    all_goals try exact dd
    all_goals intro h4
    all_goals first|(exfalso;(try rw[g1]at h4);(try rw[g2]at h4);(try rw[q1]at h4);(try rw[q2]at h4);exact tFx h4)|(exfalso;(try rw[g1]at h4);(try rw[g2]at h4);(try rw[q1]at h4);(try rw[q2]at h4);exact fTx h4)|skip
    all_goals(repeat' first|exact aq|refine aN ?_ ?_|exact tU)
    all_goals try exact dd
    ·exact fun hx=>absurd hx (by decide)
    refine CodeP.pre ?_ (seg7b s hv h0 b D (by omega) hd.drop _ _ (Or.inr ⟨j,hj,rfl,rfl,hf1,hf2⟩));exact ent_tau [0,1,2,3,4,5,6] ⟨fPp,tMm,rfl⟩
  ·have d1:s.dropT=(0,10):=by
    unfold SD.dropT;rw[h0];rfl
   have d2:s.firstT=(0,10):=by
    unfold SD.firstT;rw[h0];rfl
   have d3:s.countT=(0,10):=by
    unfold SD.countT;rw[h0];rfl
   rw[d1]at c32;rw[d2]at c30;rw[d3]at c20;refine callR (E:=E) E_ok Tryz.func7 rfl ?_;(repeat' first|exact aq|refine aN ?_ ?_|exact tU);all_goals try exact dd
   refine c38.use [0,1,2,3,4,5] ?_ (fPp) rfl;all_goals(repeat' first|exact aq|refine aN ?_ ?_|exact tU)
   all_goals try exact dd
   all_goals intro h1
   all_goals first|exact absurd h1 (by decide)|(cases h1;done)|skip
   all_goals(repeat' first|exact aq|refine aN ?_ ?_|exact tU)
   all_goals try exact dd
   refine c32.use [0,1,2,3,4,5] ?_ (fPp) rfl;(repeat' first|exact aq|refine aN ?_ ?_|exact tU);all_goals try exact dd
   refine c30.use [0,1,2,3,4,5] ?_ (fPp) rfl;(repeat' first|exact aq|refine aN ?_ ?_|exact tU);all_goals try exact dd
   refine c20.use [0,1,2,3,4,5] ?_ (fPp) rfl;all_goals(repeat' first|exact aq|refine aN ?_ ?_|exact tU)
   all_goals try exact dd
   all_goals intro h2
   all_goals first|exact absurd h2 (by decide)|(cases h2;done)|skip
   all_goals(repeat' first|exact aq|refine aN ?_ ?_|exact tU)
   all_goals try exact dd
   all_goals intro h3
   all_goals first|exact absurd h3 (by decide)|(cases h3;done)|skip
   refine t15.use [3,4] ?_ (fPp) rfl;(repeat' first|exact aq|refine aN ?_ ?_|exact tU);all_goals try exact dd
   exact ent_tau [0,1,2,3,4,5] ⟨fPp,tMm,rfl⟩
end Go.Proofs.YthnhlkflkidemaaGreatDoor
