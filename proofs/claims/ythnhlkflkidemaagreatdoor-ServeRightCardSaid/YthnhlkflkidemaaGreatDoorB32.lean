/-
  Parts: V42, V42f, V43, V48, V13, HoP4, HoP6.
-/
import Derived.Test.YthnhlkflkidemaaGreatDoorB31
import Derived.Test.YthnhlkflkidemaaGreatDoorB16
import Derived.Test.YthnhlkflkidemaaGreatDoorB18
import Derived.Test.YthnhlkflkidemaaGreatDoorB30
import Derived.Test.YthnhlkflkidemaaGreatDoorB27
import Derived.Test.YthnhlkflkidemaaGreatDoorRows
set_option linter.unusedVariables false
set_option linter.unusedSimpArgs false
/-
 Contracts of the law package's small functions. (--fast)
-/
namespace Go.Proofs.YthnhlkflkidemaaGreatDoor
open Go Go.Sy Srv Kuhn
set_option maxRecDepth 100000
set_option maxHeartbeats 4000000
attribute [local irreducible] CallP CodeP Ent YieldP
set_option maxHeartbeats 16000000
theorem t66(n lo hi:Int):CallP Tryz.prog 66 [.int .i64 n,.int .i64 lo,.int .i64 hi] [] (Ret (.bool (inB n lo hi)) []):=by
 refine callR (E:=E) E_ok Tryz.func66 rfl ?_;(repeat' first|exact aq|refine aN ?_ ?_|exact tU);all_goals try exact dd
 refine ent_tau [] ⟨trivial,⟨rfl,congrArg SV.bool ?_,trivial⟩,rfl⟩;unfold inB;cases decide (lo≤n)<;>rfl
def SD.farB(s:SD)(m:Nat):Bool:=decide (40<s.t.nM∨40<s.t.nS∨40<s.t.nL∨40<s.n∨40<m)
def popF:Nat→Nat→Nat
 |0,_=>0
 |f+1,T=>T%2+popF f (T/2)
theorem popF_is: ∀S,S<128→popF 7 S=pop S:=by decide+kernel
theorem popF_le: ∀f T,popF f T≤f
 |0,_=>Nat.le_refl _
 |f+1,T=>by
  have:=popF_le f (T/2);have:T%2<2:=Nat.mod_lt _ (by decide);rw[popF];omega
theorem popF_zero: ∀f,popF f 0=0
 |0=>rfl
 |f+1=>by rw[popF,popF_zero f]
theorem t41(S:Nat)(hS:S<128):CallP Tryz.prog 41 [.int .i64 (S:Nat)] [] (Ret (.int .i64 (pop S:Nat)) []):=by
 rw[←popF_is S hS];refine callR (E:=E) E_ok Tryz.func41 rfl ?_;(repeat' first|exact aq|refine aN ?_ ?_|exact tU);all_goals try exact dd
 refine loopP E_ok [] (fun x:Nat×Nat×Nat=>[(0,.int .i64 (x.2.1:Nat)),(3,.int .i64 (x.2.2:Nat))]) (fun _ H=>H) (fun x=>x.1≤7∧x.2.1<128∧x.2.1<2^x.1∧x.2.2+popF x.1 x.2.1=popF 7 S) (fun x=>x.1) (7,S,0) ⟨Nat.le_refl _,hS,hS,Nat.zero_add _⟩ ?_ ?_
 ·exact ent_tau [] ⟨fPp,tMm,rfl⟩
 rintro⟨f,T,c⟩ ⟨hf,hT,hT2,hc⟩;dsimp only at hf hT hT2 hc;(repeat' first|exact aq|refine aN ?_ ?_|exact tU);all_goals try exact dd
 ·intro hb;have hb:0<T:=by
   have:decide (((T:Nat):Int)>0)=true:=hb;have:=of_decide_eq_true this;omega
  have h7:=popF_le 7 S;have e1:((T:Nat):Int).tdiv 2=((T/2:Nat):Int):=rfl;have e2:((T:Nat):Int).tmod 2=((T%2:Nat):Int):=rfl;have hm:T%2<2:=Nat.mod_lt _ (by decide);cases f with
  |zero=>exact absurd hT2 (by simp;omega)
  |succ f=>
   rw[popF]at hc;have hcb:c≤7:=by omega
   (repeat' first|exact aq|refine aN ?_ ?_|exact tU);all_goals try exact dd
   all_goals first
    |(show(-9223372036854775808:Int)≤((T:Nat):Int).tdiv 2;rw[e1];omega)
    |(show((T:Nat):Int).tdiv 2≤(9223372036854775807:Int);rw[e1];omega)
    |(show(-9223372036854775808:Int)≤((c:Nat):Int)+((T:Nat):Int).tmod 2;rw[e2];omega)
    |(show((c:Nat):Int)+((T:Nat):Int).tmod 2≤(9223372036854775807:Int);rw[e2];omega)
    |skip
   have h2:T<2*2^f:=by
    rw[Nat.pow_succ]at hT2;omega
   refine⟨(f,T/2,c+T%2),⟨by omega,by show T/2<128;omega,by show T/2<2^f;omega,by show c+T%2+popF f (T/2)=popF 7 S;omega⟩,by show f<f+1;omega,?_⟩;exact ent_tau [] ⟨fPp,tMm,rfl⟩
 ·intro hb;have hb:T=0:=by
   have:decide (((T:Nat):Int)>0)=false:=hb;have:=of_decide_eq_false this;omega
  subst hb;rw[popF_zero,Nat.add_zero]at hc;subst hc;(repeat' first|exact aq|refine aN ?_ ?_|exact tU);all_goals try exact dd
  exact ent_tau [] ⟨fPp,tMm,rfl⟩
noncomputable def SD.vbS(s:SD):Bool:= @decide s.Valid (Classical.propDecidable _)
theorem vbS_yes{s:SD}(h:s.Valid):s.vbS=true:=by
 unfold SD.vbS;exact@decide_eq_true _ (Classical.propDecidable _) h
theorem vbS_no{s:SD}(h: ¬s.Valid):s.vbS=false:=by
 unfold SD.vbS;exact@decide_eq_false _ (Classical.propDecidable _) h
def HV(s:SD):SHeap:=[some (.roa 3 s.t.nM (row3 s.t.mi s.t.mlo s.t.mhi)),some (.roa 2 s.t.nS (row2 s.t.slo s.t.shi)),some (.roa 4 s.t.nL (row4 s.t.lp s.t.lm s.t.llo s.t.lhi)),some .dead,some .dead,some (.roa 5 s.n s.F)]
theorem bif3{a b c:Bool} :(bif (bif (bif !true then true else a)then true else b)then true else c)=(a||(b||c)):=by cases a<;>cases b<;>rfl
theorem bif7{a b c d e:Bool} :(bif (bif (bif (bif (bif (bif (bif !true then true else !true)then true else !true)then true else a)then true else b)then true else c)then true else d)then true else e)=(a||(b||(c||(d||e)))):=by cases a<;>cases b<;>cases c<;>cases d<;>rfl
theorem t34(s:SD)(ht:s.t.ok):CallP Tryz.prog 34 [SA s] (HV s) (Ret (.bool s.vbS) (HV s)):=by
 obtain⟨r,hr⟩: ∃r,s.vbS=r:=⟨_,rfl⟩;rw[hr];have no: ¬s.Valid→r=false:=fun h=>hr.symm.trans (vbS_no h)
 have c91:=u34 s.t ht;obtain⟨B,hB⟩: ∃B,s.t.valid=B:=⟨_,rfl⟩;rw[hB]at c91;obtain⟨D,hD⟩: ∃D,inB s.pace 0 3=D:=⟨_,rfl⟩;have c66:=t66 s.pace 0 3;rw[hD]at c66;refine callR (E:=E) E_ok Tryz.func34 rfl ?_;(repeat' first|exact aq|refine aN ?_ ?_|exact tU);all_goals try exact dd
 refine c91.use [0,1,2] ?_ (fPp) rfl;cases B
 ·obtain rfl:=no fun h=>by
   have:s.t.valid=true:=by simp[TD.valid,h.1]
   rw[this]at hB;cases hB
  all_goals(repeat' first|exact aq|refine aN ?_ ?_|exact tU)
  all_goals try exact dd
  all_goals intro h1
  all_goals first|(exfalso;exact tFx h1)|(exfalso;exact fTx h1)|skip
  all_goals(repeat' first|exact aq|refine aN ?_ ?_|exact tU)
  all_goals try exact dd
  all_goals intro h2
  all_goals first|(exfalso;exact tFx h2)|(exfalso;exact fTx h2)|skip
  all_goals(repeat' first|exact aq|refine aN ?_ ?_|exact tU)
  all_goals try exact dd
  exact ent_tau [0,1,2,3,4,5] ⟨fPp,tMm,rfl⟩
 ·have hT:s.t.Valid:=by simpa[TD.valid]using hB
  obtain⟨P,hP⟩: ∃P,(bif (bif (bif !true then true else decide (s.slo<1))then true else decide (s.slo>s.shi))then true else decide (s.shi>6))=P:=⟨_,rfl⟩;cases P
  ·have hq:=bif3.symm.trans hP;simp only[Bool.or_eq_false_iff,decide_eq_false_iff_not]at hq;all_goals(repeat' first|exact aq|refine aN ?_ ?_|exact tU)
   all_goals try exact dd
   all_goals intro h1
   all_goals first|(exfalso;(try rw[hP]at h1);exact tFx h1)|(exfalso;(try rw[hP]at h1);exact fTx h1)|skip
   refine c66.use [] ?_ trivial rfl;cases D
   ·obtain rfl:=no fun h=>by
     rw[inB_iff.2 h.2.2.1]at hD;cases hD
    all_goals(repeat' first|exact aq|refine aN ?_ ?_|exact tU)
    all_goals try exact dd
    all_goals intro h2
    all_goals first|(exfalso;(try rw[hP]at h2);exact tFx h2)|(exfalso;(try rw[hP]at h2);exact fTx h2)|skip
    all_goals(repeat' first|exact aq|refine aN ?_ ?_|exact tU)
    all_goals try exact dd
    exact ent_tau [0,1,2,3,4,5] ⟨fPp,tMm,rfl⟩
   ·have hpc:=inB_iff.1 hD;obtain⟨N,hN⟩: ∃N,decide (((s.n:Nat):Int)>5)=N:=⟨_,rfl⟩;cases N
    ·have hn5:s.n≤5:=by
      have:=of_decide_eq_false hN;omega
     all_goals(repeat' first|exact aq|refine aN ?_ ?_|exact tU)
     all_goals try exact dd
     all_goals intro h2
     all_goals first|(exfalso;(try rw[hP]at h2);(try rw[hN]at h2);exact tFx h2)|(exfalso;(try rw[hP]at h2);(try rw[hN]at h2);exact fTx h2)|skip
     all_goals(repeat' first|exact aq|refine aN ?_ ?_|exact tU)
     all_goals try exact dd
     have htv:s.t.nM≤1000:=by have:=hT.1;omega
     have hnM:0<s.t.nM:=by have:=hT.1.1;omega
     refine loopP E_ok [1] (fun i:Nat=>[(3,.int .i64 (i:Nat))]) (fun _ H=>H) (fun i=>i≤s.n∧ ∀k,k<i→s.okB k) (fun i=>s.n-i) 0 ⟨Nat.zero_le _,fun k hk=>absurd hk (Nat.not_lt_zero k)⟩ ?_ ?_
     ·exact ent_tau [0,1,2,3,4,5,6] ⟨fPp,tMm,rfl⟩
     rintro i ⟨hi,hc⟩;have ei:=z1 i;(repeat' first|exact aq|refine aN ?_ ?_|exact tU);all_goals try exact dd
     ·intro hb;have hin:i<s.n:=by
       have:=of_decide_eq_true hb;omega
      have nob: ¬s.okB i→r=false:=fun h=>no fun hv=>h (hv.2.2.2.2 i hin)
      obtain⟨B1,hB1⟩: ∃B1,inB (s.hut (0+((i:Nat):Int).toNat)) 0 3=B1:=⟨_,rfl⟩;have c1:=t66 (s.hut (0+((i:Nat):Int).toNat)) 0 3;rw[hB1]at c1;obtain⟨B2,hB2⟩: ∃B2,(decide (0<s.t.nM)&&inB (s.fr (0+((i:Nat):Int).toNat)) (s.t.mi 0) (s.t.mi (s.t.nM-1)))=B2:=⟨_,rfl⟩;have c2:=u58 s.t htv (s.fr (0+((i:Nat):Int).toNat));rw[hB2]at c2;obtain⟨B3,hB3⟩: ∃B3,(decide (0<s.t.nM)&&inB (s.to (0+((i:Nat):Int).toNat)) (s.t.mi 0) (s.t.mi (s.t.nM-1)))=B3:=⟨_,rfl⟩;have c3:=u58 s.t htv (s.to (0+((i:Nat):Int).toNat));rw[hB3]at c3;rw[ei]at hB1 hB2 hB3;(repeat' first|exact aq|refine aN ?_ ?_|exact tU);all_goals try exact dd
      refine c1.use [] ?_ trivial rfl;cases B1
      ·obtain rfl:=nob fun h=>by
        rw[inB_iff.2 h.1]at hB1;cases hB1
       all_goals(repeat' first|exact aq|refine aN ?_ ?_|exact tU)
       all_goals try exact dd
       all_goals intro h3
       all_goals first|(exfalso;exact tFx h3)|(exfalso;exact fTx h3)|skip
       all_goals(repeat' first|exact aq|refine aN ?_ ?_|exact tU)
       all_goals try exact dd
       all_goals intro h4
       all_goals first|(exfalso;exact tFx h4)|(exfalso;exact fTx h4)|skip
       all_goals(repeat' first|exact aq|refine aN ?_ ?_|exact tU)
       all_goals try exact dd
       all_goals intro h5
       all_goals first|(exfalso;exact tFx h5)|(exfalso;exact fTx h5)|skip
       all_goals(repeat' first|exact aq|refine aN ?_ ?_|exact tU)
       all_goals try exact dd
       exact ent_tau [0,1,2,3,4,5] ⟨fPp,tMm,rfl⟩
      ·all_goals(repeat' first|exact aq|refine aN ?_ ?_|exact tU)
       all_goals try exact dd
       all_goals intro h3
       all_goals first|(exfalso;exact tFx h3)|(exfalso;exact fTx h3)|skip
       refine c2.use [0,1,2] ?_ (fPp) rfl;cases B2
       ·obtain rfl:=nob fun h=>by
         rw[decide_eq_true hnM,inB_iff.2 h.2.1.1]at hB2;cases hB2
        all_goals(repeat' first|exact aq|refine aN ?_ ?_|exact tU)
        all_goals try exact dd
        all_goals intro h4
        all_goals first|(exfalso;exact tFx h4)|(exfalso;exact fTx h4)|skip
        all_goals(repeat' first|exact aq|refine aN ?_ ?_|exact tU)
        all_goals try exact dd
        all_goals intro h5
        all_goals first|(exfalso;exact tFx h5)|(exfalso;exact fTx h5)|skip
        all_goals(repeat' first|exact aq|refine aN ?_ ?_|exact tU)
        all_goals try exact dd
        exact ent_tau [0,1,2,3,4,5] ⟨fPp,tMm,rfl⟩
       ·all_goals(repeat' first|exact aq|refine aN ?_ ?_|exact tU)
        all_goals try exact dd
        all_goals intro h4
        all_goals first|(exfalso;exact tFx h4)|(exfalso;exact fTx h4)|skip
        refine c3.use [0,1,2] ?_ (fPp) rfl;cases B3
        ·obtain rfl:=nob fun h=>by
          rw[decide_eq_true hnM,inB_iff.2 h.2.1.2]at hB3;cases hB3
         all_goals(repeat' first|exact aq|refine aN ?_ ?_|exact tU)
         all_goals try exact dd
         all_goals intro h5
         all_goals first|(exfalso;exact tFx h5)|(exfalso;exact fTx h5)|skip
         all_goals(repeat' first|exact aq|refine aN ?_ ?_|exact tU)
         all_goals try exact dd
         exact ent_tau [0,1,2,3,4,5] ⟨fPp,tMm,rfl⟩
        ·rw[decide_eq_true hnM,Bool.true_and]at hB2 hB3;have q1:=inB_iff.1 hB1;have q2:=inB_iff.1 hB2;have q3:=inB_iff.1 hB3;(repeat' first|exact aq|refine aN ?_ ?_|exact tU);all_goals try exact dd
         ·intro h5;have h6:=bif7.symm.trans h5;rw[ei]at h6;simp only[Bool.or_eq_true,decide_eq_true_iff]at h6;obtain rfl:=nob fun h=>by
           have:=h.2.2;omega
          (repeat' first|exact aq|refine aN ?_ ?_|exact tU);all_goals try exact dd
          exact ent_tau [0,1,2,3,4,5] ⟨fPp,tMm,rfl⟩
         ·intro h5;have h6:=bif7.symm.trans h5;rw[ei]at h6;simp only[Bool.or_eq_false_iff,decide_eq_false_iff_not]at h6;(repeat' first|exact aq|refine aN ?_ ?_|exact tU);all_goals try exact dd
          refine⟨i+1,⟨hin,fun k hk=>?_⟩,by omega,?_⟩
          ·rcases Nat.lt_or_ge k i with h|h
           ·exact hc k h
           ·obtain rfl:k=i:=by omega
            exact⟨q1,⟨q2,q3⟩,by omega,by omega,by omega,by omega⟩
          exact ent_tau [0,1,2,3,4,5,6] ⟨fPp,tMm,rfl⟩
     ·intro hb;have hin:i=s.n:=by
       have:=of_decide_eq_false hb;omega
      subst hin;obtain rfl:r=true:=hr.symm.trans (vbS_yes ⟨hT,by omega,by omega,hn5,hc⟩);(repeat' first|exact aq|refine aN ?_ ?_|exact tU);all_goals try exact dd
      exact ent_tau [0,1,2,3,4,5] ⟨fPp,tMm,rfl⟩
    ·obtain rfl:=no fun h=>by
      have:=of_decide_eq_true hN;have:=h.2.2.2.1;omega
     all_goals(repeat' first|exact aq|refine aN ?_ ?_|exact tU)
     all_goals try exact dd
     all_goals intro h2
     all_goals first|(exfalso;(try rw[hP]at h2);(try rw[hN]at h2);exact tFx h2)|(exfalso;(try rw[hP]at h2);(try rw[hN]at h2);exact fTx h2)|skip
     all_goals(repeat' first|exact aq|refine aN ?_ ?_|exact tU)
     all_goals try exact dd
     exact ent_tau [0,1,2,3,4,5] ⟨fPp,tMm,rfl⟩
  ·have hq:=bif3.symm.trans hP;simp only[Bool.or_eq_true,decide_eq_true_iff]at hq;obtain rfl:=no fun h=>by
    have:=h.2.1;omega
   all_goals(repeat' first|exact aq|refine aN ?_ ?_|exact tU)
   all_goals try exact dd
   all_goals intro h1
   all_goals first|(exfalso;(try rw[hP]at h1);exact tFx h1)|(exfalso;(try rw[hP]at h1);exact fTx h1)|skip
   all_goals(repeat' first|exact aq|refine aN ?_ ?_|exact tU)
   all_goals try exact dd
   all_goals intro h2
   all_goals first|(exfalso;(try rw[hP]at h2);exact tFx h2)|(exfalso;(try rw[hP]at h2);exact fTx h2)|skip
   all_goals(repeat' first|exact aq|refine aN ?_ ?_|exact tU)
   all_goals try exact dd
   exact ent_tau [0,1,2,3,4,5] ⟨fPp,tMm,rfl⟩
theorem far_is(s:SD)(m:Nat):decide (mx (mx (mx (mx ((s.t.nM:Nat):Int) (s.t.nS:Nat)) (s.t.nL:Nat)) (s.n:Nat)) (m:Nat)>40)=s.farB m:=by
 unfold SD.farB mx;rw[decide_eq_decide];omega
theorem t45n(s:SD):CallP Tryz.prog 45 [SA s,.snil] [some .dead,some .dead,some .dead,some .dead,some .dead,some .dead] (Ret (.bool (s.farB 0)) [some .dead,some .dead,some .dead,some .dead,some .dead,some .dead]):=by
 refine callR (E:=E) E_ok Tryz.func45 rfl ?_;(repeat' first|exact aq|refine aN ?_ ?_|exact tU);all_goals try exact dd
 refine ent_tau [0,1,2,3,4,5] ⟨fPp,⟨rfl,congrArg SV.bool ?_,trivial⟩,rfl⟩;exact far_is s 0
noncomputable def SD.fineB(s:SD):Bool:=!s.farB 0&&s.vbS
theorem t38(s:SD)(ht:s.t.ok):CallP Tryz.prog 38 [SA s] (HV s) (Ret (.bool s.fineB) (HV s)):=by
 have c45:=t45n s;have c34:=t34 s ht;unfold SD.fineB;obtain⟨A,hA⟩: ∃A,s.farB 0=A:=⟨_,rfl⟩;obtain⟨B,hB⟩: ∃B,s.vbS=B:=⟨_,rfl⟩;rw[hA]at c45⊢;rw[hB]at c34⊢;refine callR (E:=E) E_ok Tryz.func38 rfl ?_;(repeat' first|exact aq|refine aN ?_ ?_|exact tU);all_goals try exact dd
 refine c45.use [0,1,2,0,0,5] ?_ (fPp) rfl;cases A
 ·all_goals(repeat' first|exact aq|refine aN ?_ ?_|exact tU)
  all_goals try exact dd
  all_goals intro h1
  all_goals first|(exfalso;exact tFx h1)|(exfalso;exact fTx h1)|skip
  refine c34.use [0,1,2,3,4,5] ?_ (fPp) rfl;(repeat' first|exact aq|refine aN ?_ ?_|exact tU);all_goals try exact dd
  exact ent_tau [0,1,2,3,4,5] ⟨fPp,tMm,rfl⟩
 ·all_goals(repeat' first|exact aq|refine aN ?_ ?_|exact tU)
  all_goals try exact dd
  all_goals intro h1
  all_goals first|(exfalso;exact tFx h1)|(exfalso;exact fTx h1)|skip
  all_goals(repeat' first|exact aq|refine aN ?_ ?_|exact tU)
  all_goals try exact dd
  exact ent_tau [0,1,2,3,4,5] ⟨fPp,tMm,rfl⟩
theorem fine_yes{s:SD}(h:s.fineB=true):s.Valid:=by
 unfold SD.fineB at h;simp only[Bool.and_eq_true]at h;unfold SD.vbS at h;exact@of_decide_eq_true _ (Classical.propDecidable _) h.2
end Go.Proofs.YthnhlkflkidemaaGreatDoor
/-
 A serve that is handed to a statement, as rows that are only read.
-/
namespace Go.Proofs.YthnhlkflkidemaaGreatDoor
open Go Go.Sy Go.ChangeShapes Go.WideShapes Go.ChangeAt Go.RowKit
set_option maxRecDepth 100000
theorem gDone : Tryz.prog.globalNamed "dipworks/tide.done" = some 1 := by kernel_rfl
theorem gDb : Tryz.prog.globalNamed "math/bits.deBruijn64tab" = some 0 := by kernel_rfl
theorem gDoneT:(Tryz.prog.globals[1]?).map (·.type)=some 173:=by kernel_rfl
theorem gDbT:(Tryz.prog.globals[0]?).map (·.type)=some 270:=by kernel_rfl
theorem c173:Tryz.prog.cellsOf 173=7:=by kernel_rfl
theorem c270:Tryz.prog.cellsOf 270=64:=by kernel_rfl
theorem c3:Tryz.prog.cellsOf 3=1:=by kernel_rfl
theorem c5:Tryz.prog.cellsOf 5=1:=by kernel_rfl
def tDone:List Int:=[0,1,3,6,9,11,12]
def tDb:List Int:=[0,1,56,2,57,49,28,3,61,58,42,50,38,29,17,4,62,47,59,36,45,43,51,22,53,39,33,30,24,18,12,5,63,55,48,27,60,41,37,16,46,35,44,21,52,32,23,11,54,26,40,15,34,20,31,10,25,14,19,9,13,8,7,6]
theorem tabDb {W : World} (h : laidMetH Tryz.prog Rows.serveDropRow.laid W) : Lib.TabIs Tryz.prog W "math/bits.deBruijn64tab" .u8 tDb :=
 Lib.tabIs_of_head (rest := [("dipworks/tide.done", Rows.laid_dipworks_tide_done)]) gDb gDbT Tryz.underlying270 Tryz.underlying5 c5 c270 h
theorem tabDone {W : World} (h : laidMetH Tryz.prog Rows.serveDropRow.laid W) : Lib.TabIs Tryz.prog W "dipworks/tide.done" .i64 tDone :=
 Lib.tabIs_of_head (rest := []) gDone gDoneT Tryz.underlying173 Tryz.underlying3 c3 c173 (laidMet.tail (x := ("math/bits.deBruijn64tab", Rows.laid_math_bits_deBruijn64tab)) h)
section
variable {H:Type} {enc:TypeId×Value→H} {w:World} {base:Nat} {sp:Nat→Bool} {held:Bool}
theorem it3:IntT enc Tryz.prog w base sp held 3 1:=IntT.int Tryz.underlying3 c3
theorem it41:IntT enc Tryz.prog w base sp held 28 2:=IntT.two Tryz.underlying28 it3 it3 rfl rfl (by kernel_rfl)
theorem it54:IntT enc Tryz.prog w base sp held 77 3:=IntT.two (n:=1) (m:=2) Tryz.underlying77 it3 it41 rfl rfl (by kernel_rfl)
theorem it62:IntT enc Tryz.prog w base sp held 195 4:=IntT.three (n:=1) (m:=1) (k:=2) Tryz.underlying195 it3 it3 it41 rfl rfl rfl (by kernel_rfl)
theorem partOpen{t e:TypeId}{sz:Nat}{v:Value}{d:DataW H}{ps:List MemPlace}{r:Reach}{b0:Nat}(ht:Tryz.prog.underlying t=some (.slice e))(he:IntT enc Tryz.prog w base sp held e sz)
  (h0: ∃cs T fz,w.heap[0]?=some (.cells cs T fz)) (hval:Cell.okWide Tryz.prog w r b0 t v) {fuel:Nat} (h:DataW.trod enc Tryz.prog w base sp held fuel t [v]=some (d,ps)):
  ∃(b:Bool) (a:Nat×Nat) (n c:Nat),(∀(η:Nam) i,η i=some a→den η (.osl b i sz n c)=some v)∧ ∃cs T fz,w.heap[a.1]?=some (.cells cs T fz)∧ ∀k,k<n→ ∀j,j<sz→cs[a.2+(k*sz+j)]?=some (.int .i64 (cellI w a (k*sz+j))):=by
 rcases sliceOpen ht he hval h with rfl|⟨a,n,c,rfl,_,_,cs,T,fz,h1,h2⟩
 ·obtain⟨cs,T,fz,h1⟩:=h0
  exact⟨false,(0,0),0,0,fun η i _=>by simp[den],cs,T,fz,h1,fun k hk=>by omega⟩
 ·exact⟨true,a,n,c,fun η i hi=>by simp[den,hi],cs,T,fz,h1,h2⟩
theorem cells_all: ∀(cs:List Value),(∀i,i<cs.length→intCells 1 ((cs.drop i).take 1))→intCells cs.length cs
 |[],_=>⟨[],rfl,fun z hz=>(by cases hz),rfl⟩
 |x::cs,h=>by
  have a:intCells 1 [x]:=h 0 (by simp);have b:=cells_all cs fun i hi=>h (i+1) (by simp;omega)
  have c:=a.append b;rw[List.length_cons,Nat.add_comm];exact c
theorem it56:IntT enc Tryz.prog w base sp held 56 5:=by
 refine⟨by kernel_rfl,fun fuel cs x h=>?_⟩;have h5:Tryz.prog.cellsOf 56=5:=by kernel_rfl
 obtain⟨xs,k,rfl,hx,hl,hlen,hf⟩:=DataW.trod_struct Tryz.underlying56 h;have hl5:cs.length=5:=hl.trans h5;have hx5:xs.length=5:=hlen;have key: ∀i,i<5→intCells 1 ((cs.drop i).take 1):=fun i hi=>by
  have q:DataW.trod enc Tryz.prog w base sp held k 3 (List.take (Tryz.prog.cellsOf 3) (cs.drop i))=xs[i]?:=by
   match i,hi with
   |0,_=>exact hf 0 _ rfl
   |1,_=>exact hf 1 _ rfl
   |2,_=>exact hf 2 _ rfl
   |3,_=>exact hf 3 _ rfl
   |4,_=>exact hf 4 _ rfl
  rw[c3,List.getElem?_eq_getElem (by omega)]at q;exact it3.2 _ _ _ q
 have:=cells_all cs fun i hi=>key i (by omega)
 rwa [hl5]at this
structure ServeIn(w:World)(v:Value)(s:SD)(a0 a1 a2 a3:Nat×Nat):Prop where
 ok:s.t.ok
 nums:(InR .i64 s.slo∧InR .i64 s.shi∧InR .i64 s.pace)∧ ∀k,InR .i64 (s.hut k)∧InR .i64 (s.fr k)∧InR .i64 (s.to k)∧InR .i64 (s.le k)∧InR .i64 (s.mo k)
 den: ∀η:Nam,η 0=some a0→η 1=some a1→η 2=some a2→η 5=some a3→den η (SA s)=some v
 m: ∀(η:Nam) F,(SObj.roa 3 s.t.nM (row3 s.t.mi s.t.mlo s.t.mhi)).holds η a0 F w
 s': ∀(η:Nam) F,(SObj.roa 2 s.t.nS (row2 s.t.slo s.t.shi)).holds η a1 F w
 l: ∀(η:Nam) F,(SObj.roa 4 s.t.nL (row4 s.t.lp s.t.lm s.t.llo s.t.lhi)).holds η a2 F w
 b: ∀(η:Nam) F,(SObj.roa 5 s.n s.F).holds η a3 F w
theorem serveOpen{v:Value}{d:DataW H}{ps:List MemPlace}{r:Reach}{b0:Nat}(h0: ∃cs T fz,w.heap[0]?=some (.cells cs T fz))(hval:Value.okWide Tryz.prog w r b0 31 v)
  (h:DataW.Trod enc Tryz.prog w base sp held 31 v d ps): ∃s a0 a1 a2 a3,ServeIn w v s a0 a1 a2 a3:=by
 unfold Value.okWide at hval;rw[Tryz.underlying31]at hval;obtain⟨cs,rfl,hsz,ts,hts,_,hc⟩:=hval;have e1:Tryz.prog.cellsOf 31=7:=by kernel_rfl
 have e2:Tryz.prog.cellTypes Tryz.prog.depth 31=some [22,23,24,3,3,3,29]:=by kernel_rfl
 have e3:Tryz.prog.cellsOf 26=3:=by kernel_rfl
 have e4:Tryz.prog.cellsOf 28=2:=by kernel_rfl
 have e5:Tryz.prog.cellsOf 29=1:=by kernel_rfl
 have e6:Tryz.prog.cellsOf 22=1:=by kernel_rfl
 have e7:Tryz.prog.cellsOf 23=1:=by kernel_rfl
 have e8:Tryz.prog.cellsOf 24=1:=by kernel_rfl
 rw[e1]at hsz;rw[e2]at hts;cases hts;obtain⟨fuel,h⟩:=h;obtain⟨v0,v1,v2,v3,v4,v5,v6,rfl⟩: ∃v0 v1 v2 v3 v4 v5 v6,cs= #[v0,v1,v2,v3,v4,v5,v6]:=by
  obtain⟨l⟩:=cs;match l,hsz with
  |[a,b,c,d,e,f,g],_=>exact⟨a,b,c,d,e,f,g,rfl⟩
 obtain⟨xs,n,rfl,hx,_,hlen,hf⟩:=DataW.trod_struct Tryz.underlying31 h;have hlen':xs.length=4:=hlen;have f0:DataW.trod enc Tryz.prog w base sp held n 26 (([v0,v1,v2,v3,v4,v5,v6].drop 0).take (Tryz.prog.cellsOf 26))=xs[0]?:=hf 0 _ rfl;rw[e3,List.getElem?_eq_getElem (by omega)]at f0;have f1:DataW.trod enc Tryz.prog w base sp held n 28 (([v0,v1,v2,v3,v4,v5,v6].drop 3).take (Tryz.prog.cellsOf 28))=xs[1]?:=hf 1 _ rfl;rw[e4,List.getElem?_eq_getElem (by omega)]at f1;have f2:DataW.trod enc Tryz.prog w base sp held n 3 (([v0,v1,v2,v3,v4,v5,v6].drop 5).take (Tryz.prog.cellsOf 3))=xs[2]?:=hf 2 _ rfl;rw[c3,List.getElem?_eq_getElem (by omega)]at f2;have f3:DataW.trod enc Tryz.prog w base sp held n 29 (([v0,v1,v2,v3,v4,v5,v6].drop 6).take (Tryz.prog.cellsOf 29))=xs[3]?:=hf 3 _ rfl;rw[e5,List.getElem?_eq_getElem (by omega)]at f3;obtain⟨ys,n',hy0,hy1,hy2,hylen,hg⟩:=DataW.trod_struct Tryz.underlying26 f0;have hylen':ys.length=3:=hylen;have g0:DataW.trod enc Tryz.prog w base sp held n' 22 (([v0,v1,v2].drop 0).take (Tryz.prog.cellsOf 22))=ys[0]?:=hg 0 _ rfl;rw[e6,List.getElem?_eq_getElem (by omega)]at g0;have g1:DataW.trod enc Tryz.prog w base sp held n' 23 (([v0,v1,v2].drop 1).take (Tryz.prog.cellsOf 23))=ys[1]?:=hg 1 _ rfl;rw[e7,List.getElem?_eq_getElem (by omega)]at g1;have g2:DataW.trod enc Tryz.prog w base sp held n' 24 (([v0,v1,v2].drop 2).take (Tryz.prog.cellsOf 24))=ys[2]?:=hg 2 _ rfl;rw[e8,List.getElem?_eq_getElem (by omega)]at g2;obtain⟨u0,hu0,w0⟩:=hc 0 v0 rfl;obtain⟨u1,hu1,w1⟩:=hc 1 v1 rfl;obtain⟨u2,hu2,w2⟩:=hc 2 v2 rfl;obtain⟨u6,hu6,w6⟩:=hc 6 v6 rfl;cases hu0;cases hu1;cases hu2;cases hu6;obtain⟨bM,a0,nM,cM,d0,cs0,T0,z0,gg0,k0⟩:=partOpen Tryz.underlying22 it54 h0 w0 g0;obtain⟨bS,a1,nS,cS,d1,cs1,T1,z1,gg1,k1⟩:=partOpen Tryz.underlying23 it41 h0 w1 g1;obtain⟨bL,a2,nL,cL,d2,cs2,T2,z2,gg2,k2⟩:=partOpen Tryz.underlying24 it62 h0 w2 g2
 obtain⟨bB,a3,nB,cB,d3,cs3,T3,z3,gg3,k3⟩:=partOpen Tryz.underlying29 it56 h0 w6 f3;obtain⟨zs,hz1,hz2,hz3⟩:=it41.2 _ _ _ f1;obtain⟨ps',hp1,hp2,hp3⟩:=it3.2 _ _ _ f2;obtain⟨lo,hi,rfl⟩: ∃lo hi,zs=[lo,hi]:=by
  match zs,hz1 with
  |[a,b],_=>exact⟨a,b,rfl⟩
 obtain⟨pc,rfl⟩: ∃pc,ps'=[pc]:=by
  match ps',hp1 with
  |[a],_=>exact⟨a,rfl⟩
 have q3:[v3,v4]=[Value.int .i64 lo,.int .i64 hi]:=hz3;have q5:[v5]=[Value.int .i64 pc]:=hp3;simp only[List.cons.injEq,and_true]at q3 q5;obtain⟨rfl,rfl⟩:=q3;subst q5;refine⟨⟨⟨nM,nS,nL,fun k=>cellI w a0 (k*3),fun k=>cellI w a0 (k*3+1),fun k=>cellI w a0 (k*3+2),fun k=>cellI w a1 (k*2),fun k=>cellI w a1 (k*2+1),fun k=>cellI w a2 (k*4),fun k=>cellI w a2 (k*4+1),fun k=>cellI w a2 (k*4+2),fun k=>cellI w a2 (k*4+3),bM,bS,bL,cM,cS,cL⟩,
  nB,fun k=>cellI w a3 (k*5),fun k=>cellI w a3 (k*5+1),fun k=>cellI w a3 (k*5+2),fun k=>cellI w a3 (k*5+3),fun k=>cellI w a3 (k*5+4),lo,hi,pc,bB,cB⟩,a0,a1,a2,a3,?_,?_,?_,?_,?_,?_,?_⟩
 ·constructor<;>intro k<;>exact cellI_ok _ _ _
 ·exact⟨⟨hz2 _ (by simp),hz2 _ (by simp),hp2 _ (by simp)⟩,fun k=>⟨cellI_ok _ _ _,cellI_ok _ _ _,cellI_ok _ _ _,cellI_ok _ _ _,cellI_ok _ _ _⟩⟩
 ·intro η q0 q1 q2 q3;have y0:=d0 η 0 q0;have y1:=d1 η 1 q1;have y2:=d2 η 2 q2;have y3:=d3 η 5 q3;show den η (.agg _)=_;unfold svd;simp[den,denL]at y0 y1 y2 y3⊢;simp[y0,y1,y2,y3]
 ·intro η F;refine⟨cs0,T0,z0,gg0,fun k hk=>⟨_,rfl,rfl,fun j v hj=>?_⟩⟩;match j,hj with
  |0,hj=>cases hj;exact k0 k hk 0 (by omega)
  |1,hj=>cases hj;exact k0 k hk 1 (by omega)
  |2,hj=>cases hj;exact k0 k hk 2 (by omega)
 ·intro η F;refine⟨cs1,T1,z1,gg1,fun k hk=>⟨_,rfl,rfl,fun j v hj=>?_⟩⟩;match j,hj with
  |0,hj=>cases hj;exact k1 k hk 0 (by omega)
  |1,hj=>cases hj;exact k1 k hk 1 (by omega)
 ·intro η F;refine⟨cs2,T2,z2,gg2,fun k hk=>⟨_,rfl,rfl,fun j v hj=>?_⟩⟩;match j,hj with
  |0,hj=>cases hj;exact k2 k hk 0 (by omega)
  |1,hj=>cases hj;exact k2 k hk 1 (by omega)
  |2,hj=>cases hj;exact k2 k hk 2 (by omega)
  |3,hj=>cases hj;exact k2 k hk 3 (by omega)
 ·intro η F;refine⟨cs3,T3,z3,gg3,fun k hk=>⟨_,rfl,rfl,fun j v hj=>?_⟩⟩;match j,hj with
  |0,hj=>cases hj;exact k3 k hk 0 (by omega)
  |1,hj=>cases hj;exact k3 k hk 1 (by omega)
  |2,hj=>cases hj;exact k3 k hk 2 (by omega)
  |3,hj=>cases hj;exact k3 k hk 3 (by omega)
  |4,hj=>cases hj;exact k3 k hk 4 (by omega)
end
theorem satHS{w:World}{v:Value}{s:SD}{a0 a1 a2 a3:Nat×Nat}(h:ServeIn w v s a0 a1 a2 a3)(hL:laidMetH Tryz.prog Rows.serveDropRow.laid w):
  Sat (fun j=>[a0,a1,a2,((1:Nat),(0:Nat)),(0,0),a3][j]?) (fun _ _=>False) (HS s) w (fun _=>False) w:=by
 refine satRo _ rfl ?_ ?_
 ·intro i x hx;match i,hx with
  |0,hx=>cases hx;exact⟨_,rfl,rfl⟩
  |1,hx=>cases hx;exact⟨_,rfl,rfl⟩
  |2,hx=>cases hx;exact⟨_,rfl,rfl⟩
  |3,hx=>cases hx;exact⟨_,rfl,rfl⟩
  |4,hx=>cases hx;exact⟨_,rfl,rfl⟩
  |5,hx=>cases hx;exact⟨_,rfl,rfl⟩
 ·intro i o a ho ha;match i,ho,ha with
  |0,ho,ha=>cases ho;cases ha;exact h.m _ _
  |1,ho,ha=>cases ho;cases ha;exact h.s' _ _
  |2,ho,ha=>cases ho;cases ha;exact h.l _ _
  |3,ho,ha=>cases ho;cases ha;exact glob_holds (tabDone hL) gDone
  |4,ho,ha=>cases ho;cases ha;exact glob_holds (tabDb hL) gDb
  |5,ho,ha=>cases ho;cases ha;exact h.b _ _
theorem cells0{w:World}(hL:laidMetH Tryz.prog Rows.serveDropRow.laid w): ∃cs T fz,w.heap[0]?=some (.cells cs T fz):=by
 have h:=tabDb hL;unfold Lib.TabIs World.var? at h;rw[gDb]at h;simp only[Option.bind_some]at h;split at h
 ·rename_i e;exact⟨_,_,_,e⟩
 ·cases h
end Go.Proofs.YthnhlkflkidemaaGreatDoor
/-
 The moves of a plan are those of the plain law. (--fast)
-/
namespace Go.Proofs.YthnhlkflkidemaaGreatDoor
open Go Go.Sy Srv Kuhn
set_option maxRecDepth 100000
set_option maxHeartbeats 4000000
attribute [local irreducible] CallP CodeP Ent YieldP
def tupM(s:SD)(R:Nat→Nat)(p:Nat→Int)(i:Nat):Int×Int×Int×Int:=(s.to ((sbR s R).frm i),s.hut i,dst (p ((sbR s R).frm i)) (p i)*s.slo,dst (p ((sbR s R).frm i)) (p i)*s.shi)
theorem dst_pos{a b:Int} :0<dst a b↔a≠b:=by
 unfold dst;omega
theorem moved_at{s:SD}{R:Nat→Nat}(hs:s.Ok R)(p:Nat→Int)(i:Nat)(hi:i<s.n):movedS s (sbR s R).ord p i=if(sbR s R).mvB p i=true then tupM s R p i else zM:=by
 unfold movedS;rw[run_acc];obtain⟨s1,s2,s3⟩:=srtF_ok s.fr s.n;have step: ∀(g:MV) (k:Nat),k<s.n→step76 s p g k ((sbR s R).valS p (bfF (sbR s R) allB k (sbR s R).n))=if(sbR s R).mvB p k=true then setM g k (tupM s R p k)else g:=fun g k hk=>by
  unfold step76 SB.mvB tupM SB.frm;cases hb:bfF (sbR s R) allB k (sbR s R).n with
  |none=>simp[SB.valS]
  |some m=>
   have hm:m<s.n:=((bfF_spec (sbR s R) allB k (sbR s R).n).2 m hb).1.1;have h2:0≤(sbR s R).to m:=(hs.to m hm).1;simp only[SB.valS,h2,true_and,dst_pos,Option.getD_some,Bool.not_eq_true',decide_eq_false_iff_not];rfl
 have key: ∀j,j≤s.n→ ∀i,accR (sbR s R) p (step76 s p) zeroM j i=if(∃k,k<j∧srtF s.fr s.n k=i)∧(sbR s R).mvB p i=true then tupM s R p i else zM:=by
  intro j;induction j with
  |zero=>
   intro _ i;rw[if_neg (by rintro⟨⟨k,hk,_⟩,_⟩;omega)];rfl
  |succ j ih=>
   intro hj i;have hlt:srtF s.fr s.n j<s.n:=(s3 _).1 ⟨j,by omega,rfl⟩;rw[accR];have e:srtF (sbR s R).fr (sbR s R).n j=srtF s.fr s.n j:=rfl;rw[e,step _ _ hlt];have ih':=ih (by omega) i;by_cases c:i=srtF s.fr s.n j
   ·subst c;by_cases hm:(sbR s R).mvB p (srtF s.fr s.n j)=true
    ·rw[if_pos hm,if_pos ⟨⟨j,by omega,rfl⟩,hm⟩];unfold setM;rw[if_pos rfl]
    ·rw[if_neg hm,ih',if_neg (fun h=>hm h.2),if_neg (fun h=>hm h.2)]
   ·have e2:(if(sbR s R).mvB p (srtF s.fr s.n j)=true then setM (accR (sbR s R) p (step76 s p) zeroM j) (srtF s.fr s.n j) (tupM s R p (srtF s.fr s.n j))else accR (sbR s R) p (step76 s p) zeroM j) i=accR (sbR s R) p (step76 s p) zeroM j i:=by
     split
     ·unfold setM;rw[if_neg c]
     ·rfl
    rw[e2,ih'];have:(∃k,k<j∧srtF s.fr s.n k=i)↔ ∃k,k<j+1∧srtF s.fr s.n k=i:=by
     constructor
     ·rintro⟨k,h1,h2⟩;exact⟨k,by omega,h2⟩
     ·rintro⟨k,h1,h2⟩;refine⟨k,?_,h2⟩;rcases Nat.lt_or_ge k j with h|h
      ·exact h
      ·have:k=j:=by omega
       subst this;exact absurd h2.symm c
    simp only[this]
 have:=key s.n (Nat.le_refl _) i;rw[show(sbR s R).n=s.n from rfl]at*;rw[this];have h4: ∃k,k<s.n∧srtF s.fr s.n k=i:=(s3 i).2 hi;by_cases hm:(sbR s R).mvB p i=true
 ·rw[if_pos ⟨h4,hm⟩,if_pos hm]
 ·rw[if_neg (fun h=>hm h.2),if_neg hm]
theorem moves_eq{s:SD}{R:Nat→Nat}(hs:s.Ok R)(p:Nat→Int):movesL (movedS s (sbR s R).ord p) s.n=((sbR s R).mvL p).map (tupM s R p):=by
 unfold movesL SB.mvL;rw[show(sbR s R).n=s.n from rfl];have e:(List.range s.n).map (movedS s (sbR s R).ord p)=(List.range s.n).map fun i=>if(sbR s R).mvB p i=true then tupM s R p i else zM:=
  List.map_congr_left fun i hi=>moved_at hs p i (List.mem_range.1 hi)
 rw[e,List.filter_map];have key: ∀i,((fun x:Int×Int×Int×Int=>decide (x.2.2.2>0)) ∘ fun i=>if(sbR s R).mvB p i=true then tupM s R p i else zM) i=(sbR s R).mvB p i:=fun i=>by
  simp only[Function.comp];rw[Bool.eq_iff_iff,decide_eq_true_iff];by_cases hm:(sbR s R).mvB p i=true;case neg=>
   rw[if_neg hm];exact⟨fun h=>absurd h (by decide),fun h=>absurd h hm⟩
  case pos=>
   rw[if_pos hm];refine⟨fun _=>hm,fun _=>?_⟩;have h1:0<dst (p ((sbR s R).frm i)) (p i):=by
    rw[dst_pos];unfold SB.mvB at hm;unfold SB.frm;cases hb:bfF (sbR s R) allB i (sbR s R).n with
    |none=>
     rw[hb]at hm;exact Bool.noConfusion hm
    |some m=>
     rw[hb]at hm;simpa using hm
   have h2:0<s.shi:=by have:=hs.slo;omega
   have h3:0<dst (p ((sbR s R).frm i)) (p i)*s.shi:=Int.mul_pos h1 h2;exact h3
 have e2:(List.range s.n).filter ((fun x:Int×Int×Int×Int=>decide (x.2.2.2>0)) ∘ fun i=>if(sbR s R).mvB p i=true then tupM s R p i else zM)=(List.range s.n).filter ((sbR s R).mvB p):=List.filter_congr fun i _=>key i
 rw[e2];refine List.map_congr_left fun i hi=>?_
 rw[if_pos (List.mem_filter.1 hi).2]
end Go.Proofs.YthnhlkflkidemaaGreatDoor
/-
 Contracts: how many moves a set has.
-/
namespace Go.Proofs.YthnhlkflkidemaaGreatDoor
open Go Go.Sy Kuhn
set_option maxRecDepth 100000
set_option maxHeartbeats 4000000
attribute [local irreducible] CallP CodeP Ent YieldP
def oc1(x:Int):Int:=IntKind.wrap .u64 (bitOp .and .u64 (x.fdiv (2^(1:Int).toNat)) 6148914691236517205+bitOp .and .u64 x 6148914691236517205)
def oc2(x:Int):Int:=IntKind.wrap .u64 (bitOp .and .u64 (x.fdiv (2^(2:Int).toNat)) 3689348814741910323+bitOp .and .u64 x 3689348814741910323)
def oc3(x:Int):Int:=bitOp .and .u64 (IntKind.wrap .u64 (x.fdiv (2^(4:Int).toNat)+x)) 1085102592571150095
def oc4(x:Int):Int:=IntKind.wrap .u64 (x+x.fdiv (2^(8:Int).toNat))
def oc5(x:Int):Int:=IntKind.wrap .u64 (x+x.fdiv (2^(16:Int).toNat))
def oc6(x:Int):Int:=IntKind.wrap .u64 (x+x.fdiv (2^(32:Int).toNat))
def oc7(x:Int):Int:=bitOp .and .i64 (IntKind.wrap .i64 x) 127
theorem h102(x:Int):CallP Tryz.prog 151 [.int .u64 x] [] (Ret (.int .i64 (oc7 (oc6 (oc5 (oc4 (oc3 (oc2 (oc1 x)))))))) []):=by
 refine callR (E:=Ew) Ew_ok Tryz.func151 rfl ?_;(repeat' (first|exact tU|exact fun _=>rfl|exact rfl|refine aN ?_ ?_));all_goals first|exact u0 (by decide)|skip
 exact ent_tau [] ⟨qZ0,qZ2,rfl⟩
theorem oc_ok: ∀S:Fin 128,oc7 (oc6 (oc5 (oc4 (oc3 (oc2 (oc1 ((S:Nat):Int)))))))=((pop S:Nat):Int):=by decide+kernel
theorem h102p(S:Nat)(hS:S<128):CallP Tryz.prog 151 [.int .u64 S] [] (Ret (.int .i64 (pop S:Nat)) []):=by
 have:=h102 (S:Int);rw[oc_ok ⟨S,hS⟩]at this;exact this
theorem h98(S:Nat)(hS:S<128):CallP Tryz.prog 85 [.int .u64 S] [] (Ret (.int .i64 (pop S:Nat)) []):=by
 refine callR (E:=E) E_ok Tryz.func85 rfl ?_;(repeat' (first|exact tU|exact fun _=>rfl|exact rfl|refine aN ?_ ?_))
 ·exact fun h=>absurd h (by decide)
 intro _;(repeat' (first|exact tU|exact fun _=>rfl|exact rfl|refine aN ?_ ?_));refine(h102p S hS).use [] ?_ (qZ0) rfl;(repeat' (first|exact tU|exact fun _=>rfl|exact rfl|refine aN ?_ ?_));exact ent_tau [] ⟨qZ0,qZ2,rfl⟩
theorem h92(S:Nat)(hS:S<128):CallP Tryz.prog 180 [.int .u64 S] [] (Ret (.int .i64 (pop S:Nat)) []):=by
 refine callR (E:=E) E_ok Tryz.func180 rfl ?_;(repeat' (first|exact tU|exact fun _=>rfl|exact rfl|refine aN ?_ ?_));refine(h98 S hS).use [] ?_ (qZ0) rfl;(repeat' (first|exact tU|exact fun _=>rfl|exact rfl|refine aN ?_ ?_));exact ent_tau [] ⟨qZ0,qZ2,rfl⟩
theorem pow_lt7{k:Nat}(hk:k<7):2^k<128:=Nat.pow_lt_pow_right (n:=7) (by omega) hk
theorem h67(h:HD)(hn:h.n≤7):CallP Tryz.prog 118 [HD.A h] (HD.H h) (Ret (.int .u64 (h.every:Nat)) (HD.H h)):=by
 have pk:=pow_int h.n;have p1:=Nat.pow_pos (n:=h.n) (show 0<2 by omega);have p2:2^h.n≤2^7:=Nat.pow_le_pow_right (by omega) hn;have pe:(1:Int)*2^((h.n:Nat):Int).toNat-1=((h.every:Nat):Int):=by
  rw[pk];unfold HD.every;omega
 have p3:=HD.every_lt hn;have pk0:(0:Int)≤1*2^((h.n:Nat):Int).toNat:=by rw[pk];exact Int.natCast_nonneg _
 refine callR (E:=E) E_ok Tryz.func118 rfl ?_;(repeat' (first|exact tU|exact fun _=>rfl|exact rfl|refine aN ?_ ?_));all_goals first|exact qM0|exact pk0|(rw[pk];omega)|(rw[pe];omega)|exact u0 (show((h.n:Nat):Int)<64 by omega)|skip
 refine ent_tau [0] ⟨qZ0,⟨rfl,?_,trivial⟩,rfl⟩;exact congrArg (SV.int .u64) pe
attribute [local irreducible] HD.ch maskO
structure PD where
 n:Nat
 p:Nat→Int
 b:Bool
 cap:Nat
def PD.F(pl:PD)(k:Nat):List SV:=[.int .i64 (pl.p k)]
def PD.ok(h:HD)(pl:PD):Prop:=pl.n=h.n∧ ∀k,k<pl.n→0≤pl.p k∧pl.p k≤6
def K47(h:HD)(b:Bool)(base:SHeap):CE→SHeap→Prop:=fun ce h'=>
 (h.Valid∧b=true∧ce= .ret (HD.A h)∧h'=base)∨(¬h.Valid∧ce= .panic (.iface 245 (.int .i64 1))∧h'=base)∨(h.Valid∧b=false∧ce= .panic (.iface 245 (.int .i64 2))∧h'=base)
end Go.Proofs.YthnhlkflkidemaaGreatDoor
