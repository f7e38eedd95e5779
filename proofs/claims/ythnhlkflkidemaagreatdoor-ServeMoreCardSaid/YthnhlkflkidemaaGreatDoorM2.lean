/-
  Parts: V52.
-/
import Derived.Test.YthnhlkflkidemaaGreatDoorB1
import Derived.Test.YthnhlkflkidemaaGreatDoorB2
import Derived.Test.YthnhlkflkidemaaGreatDoorB3
import Derived.Test.YthnhlkflkidemaaGreatDoorB4
import Derived.Test.YthnhlkflkidemaaGreatDoorB5
import Derived.Test.YthnhlkflkidemaaGreatDoorB6
import Derived.Test.YthnhlkflkidemaaGreatDoorB7
import Derived.Test.YthnhlkflkidemaaGreatDoorB8
import Derived.Test.YthnhlkflkidemaaGreatDoorB9
import Derived.Test.YthnhlkflkidemaaGreatDoorB10
import Derived.Test.YthnhlkflkidemaaGreatDoorB11
import Derived.Test.YthnhlkflkidemaaGreatDoorB12
import Derived.Test.YthnhlkflkidemaaGreatDoorB13
import Derived.Test.YthnhlkflkidemaaGreatDoorB14
import Derived.Test.YthnhlkflkidemaaGreatDoorB15
import Derived.Test.YthnhlkflkidemaaGreatDoorB16
import Derived.Test.YthnhlkflkidemaaGreatDoorB17
import Derived.Test.YthnhlkflkidemaaGreatDoorB18
import Derived.Test.YthnhlkflkidemaaGreatDoorB19
import Derived.Test.YthnhlkflkidemaaGreatDoorB20
import Derived.Test.YthnhlkflkidemaaGreatDoorB21
import Derived.Test.YthnhlkflkidemaaGreatDoorB22
import Derived.Test.YthnhlkflkidemaaGreatDoorB23
import Derived.Test.YthnhlkflkidemaaGreatDoorB24
import Derived.Test.YthnhlkflkidemaaGreatDoorB25
import Derived.Test.YthnhlkflkidemaaGreatDoorB26
import Derived.Test.YthnhlkflkidemaaGreatDoorB27
import Derived.Test.YthnhlkflkidemaaGreatDoorB28
import Derived.Test.YthnhlkflkidemaaGreatDoorB29
import Derived.Test.YthnhlkflkidemaaGreatDoorB30
import Derived.Test.YthnhlkflkidemaaGreatDoorB31
import Derived.Test.YthnhlkflkidemaaGreatDoorB32
import Derived.Test.YthnhlkflkidemaaGreatDoorB33
import Derived.Test.YthnhlkflkidemaaGreatDoorB34
import Derived.Test.YthnhlkflkidemaaGreatDoorB35
import Derived.Test.YthnhlkflkidemaaGreatDoorB36
import Derived.Test.YthnhlkflkidemaaGreatDoorB37
import Derived.Test.YthnhlkflkidemaaGreatDoorB38
import Derived.Test.YthnhlkflkidemaaGreatDoorM1
set_option linter.unusedVariables false
set_option linter.unusedSimpArgs false
/-
 ServeMore: the change. (--fast)
-/
namespace Go.Proofs.YthnhlkflkidemaaGreatDoor
open Go Go.Sy Srv Kuhn
set_option maxRecDepth 100000
set_option maxHeartbeats 4000000
attribute [local irreducible] CallP CodeP Ent YieldP
set_option maxHeartbeats 16000000
def qp9_5:Plan:= .eager 0<| .eager 1<| .eager 2<| .eager 3<| .eager 4<| .eager 5<| .eager 6<| .eager 7<| .eager 8<| .eager 9<| .done
def qp9_13:Plan:= .eager 0<| .eager 1<| .eager 2<| .eager 3<| .eager 6<| .eager 7<| .eager 8<| .eager 11<| .eager 12<| .eager 13<| .alt 4 (.eager 5<| .alt 9 (.eager 10<| .eager 14<| .eager 15<| .eager 16<| .eager 17<| .alt 18 (.done) .no) .no) (.alt 9 (.eager 10<| .eager 14<| .alt 4 (.eager 5<| .eager 15<| .eager 16<| .eager 17<| .alt 18 (.done) .no) .no) .no)
noncomputable def T9b(yb:Bool)(k yc:Nat)(w v:Int):Tm:=mkT [] [(1,.osl yb 6 1 k yc),(2,.int .u8 w),(3,.int .u8 v),(4,.ptr 7 0),(8,.bool false),(9,.ptr 8 0)] 0 (List.replicate 189 none)
def bx9(s:SD)(slo shi:Int)(cap:Nat):List SV:=[.osl s.t.bM 0 3 s.t.nM s.t.cM,.osl s.t.bS 1 2 s.t.nS s.t.cS,.osl s.t.bL 2 4 s.t.nL s.t.cL,.int .i64 slo,.int .i64 shi,.int .i64 s.pace,.slice 9 5 0 s.n cap]
theorem seg9c'(s:SD)(hv:s.Valid)(hn:0<s.n)(to le mo:Nat→Int)(slo shi:Int)(cap:Nat)(B:Bet s (mrX s to le mo slo shi cap))(yb:Bool)(k yc:Nat)(y:Nat→Int)(hy: ∀j,0≤y j∧y j≤255)(hk:k≤9223372036854775807):
  CodeP Tryz.prog none 7 (sufC Tryz.f9 6) ⟨T9c yb k yc,HS s++[some (.roa 1 k (rowU y)),some (.roc (svd s 5)),some (.cells (bx9 s slo shi cap)),some (.roa 5 s.n (mrX s to le mo slo shi cap).F)],[]⟩ (KRet E Tryz.f9 7 (.bool true) (HS s++[some (.roa 1 k (rowU y))])):=by
 refine CodeP.pre (entCells (i:=8) (cs':=svd (mrX s to le mo slo shi cap) 9) rfl (fun η=>by simp[denL,den,bx9,svd,mrX])) (CodeP.pre ?_ (seg9c s hv hn to le mo slo shi cap B yb k yc y hy hk));exact ent_tau [0,1,2,3,4,5,6,7,8,9] ⟨fPp,tMm,rfl⟩
theorem mrA_row(s:SD)(m:Nat)(d:Int)(cap k:Nat):selL (decide (k=m)) (splice (s.F m) 4 [.int .i64 (if s.mo m+1+d<60 then s.mo m+1+d else 60)]) (s.F k)=(mrX s s.to s.le (mrA s m d cap).mo s.slo s.shi cap).F k:=by
 by_cases c:k=m
 ·subst c;rw[decide_eq_true rfl,selL_true];unfold SD.F mrX mrA mnI;simp only[if_pos rfl];rfl
 ·rw[decide_eq_false c,selL_false];unfold SD.F mrX mrA;simp only[if_neg c]
theorem mrB_row(s:SD)(m:Nat)(d:Int)(cap k:Nat):selL (decide (k=m)) (splice (s.F m) 3 [.int .i64 (if s.le m-1-d>0 then s.le m-1-d else 0)]) (s.F k)=(mrX s s.to (mrB s m d cap).le s.mo s.slo s.shi cap).F k:=by
 by_cases c:k=m
 ·subst c;rw[decide_eq_true rfl,selL_true];unfold SD.F mrX mrB mxI;simp only[if_pos rfl];rfl
 ·rw[decide_eq_false c,selL_false];unfold SD.F mrX mrB;simp only[if_neg c]
theorem mrC_row(s:SD)(m:Nat)(d:Int)(cap k:Nat):selL (decide (k=m)) (splice (s.F m) 2 [.int .i64 (if s.to m-1-d>s.fr m+1 then s.to m-1-d else s.fr m+1)]) (s.F k)=(mrX s (mrC s m d cap).to s.le s.mo s.slo s.shi cap).F k:=by
 by_cases c:k=m
 ·subst c;rw[decide_eq_true rfl,selL_true];unfold SD.F mrX mrC mxI;simp only[if_pos rfl];rfl
 ·rw[decide_eq_false c,selL_false];unfold SD.F mrX mrC;simp only[if_neg c]
theorem seg9b(s:SD)(hv:s.Valid)(hn:0<s.n)(cap:Nat)(yb:Bool)(k yc:Nat)(y:Nat→Int)(hy: ∀j,0≤y j∧y j≤255)(hk:k≤9223372036854775807)(w v:Int)(hw:0≤w∧w≤255)(hvv:0≤v∧v≤255):
  CodeP Tryz.prog none 7 (sufC Tryz.f9 4) ⟨T9b yb k yc w v,HS s++[some (.roa 1 k (rowU y)),some (.roc (svd s 5)),some (.cells (bx9 s s.slo s.shi cap)),some (.arr 5 s.n cap s.F)],[]⟩ (KRet E Tryz.f9 7 (.bool true) (HS s++[some (.roa 1 k (rowU y))])):=by
 have hm0:0≤v.tmod (s.n:Nat)∧v.tmod (s.n:Nat)<(s.n:Nat):=⟨Int.tmod_nonneg _ hvv.1,Int.tmod_lt_of_pos _ (by omega)⟩;have hd0:0≤w.tdiv 64∧w.tdiv 64≤3:=by
  rw[Int.tdiv_eq_ediv_of_nonneg hw.1];omega
 have hh:=hv.2.2.2.2 (0+(v.tmod (s.n:Nat)).toNat) (by omega);have hmi:=hv.2.2.2.2 (0+(v.tmod (s.n:Nat)).toNat) (by omega);unfold SD.okB at hh;have hso:=hv.2.1;have hfr:=hv.vldM.tm (0+(v.tmod (s.n:Nat)).toNat) (show _<s.n by omega);have hfr:0≤s.fr (0+(v.tmod (s.n:Nat)).toNat):=hfr.1;refine codeP_XK E_ok 2 ?_;(repeat' first|exact aq|refine aN ?_ ?_|exact tU);refine drawP E_ok [8] qp9_5 (by kernel_rfl) ?_;(repeat' first|exact aq|refine aN ?_ ?_|exact tU)
 ·exact hm0.1
 ·exact hm0.2
 all_goals try exact dd
 ·intro _;(repeat' first|exact aq|refine aN ?_ ?_|exact tU);all_goals first|exact u0 (by omega)|(show(_:Int)≤_;omega)|omega|exact(by decide:(64:Int)≠0)|skip
  refine CodeP.part (seg9c' s hv hn s.to s.le (mrA s (0+(v.tmod (s.n:Nat)).toNat) (w.tdiv 64) cap).mo s.slo s.shi cap (mrA_bet hv _ _ hd0.1 _) yb k yc y hy hk) ?_;refine ent_tau [0,1,2,3,4,5,6,7,8,9] ⟨?_,tMm,rfl⟩;(repeat' first|exact fp|refine aN ?_ ?_);exact fun k _=>mrA_row s _ _ cap k
 ·intro _;(repeat' first|exact aq|refine aN ?_ ?_|exact tU);all_goals try exact dd
  ·intro _;(repeat' first|exact aq|refine aN ?_ ?_|exact tU);all_goals first|exact u0 (by omega)|(show(_:Int)≤_;omega)|omega|exact(by decide:(64:Int)≠0)|skip
   refine CodeP.part (seg9c' s hv hn s.to (mrB s (0+(v.tmod (s.n:Nat)).toNat) (w.tdiv 64) cap).le s.mo s.slo s.shi cap (mrB_bet hv _ _ hd0.1 _) yb k yc y hy hk) ?_;refine ent_tau [0,1,2,3,4,5,6,7,8,9] ⟨?_,tMm,rfl⟩;(repeat' first|exact fp|refine aN ?_ ?_);exact fun k _=>mrB_row s _ _ cap k
  ·intro _;(repeat' first|exact aq|refine aN ?_ ?_|exact tU);all_goals try exact dd
   ·intro _;(repeat' first|exact aq|refine aN ?_ ?_|exact tU);refine drawP E_ok [] qp9_13 (by kernel_rfl) ?_;(repeat' first|exact aq|refine aN ?_ ?_|exact tU);all_goals first|exact u0 (by omega)|(show(_:Int)≤_;omega)|omega|exact(by decide:(64:Int)≠0)|skip
    all_goals refine CodeP.part (seg9c' s hv hn (mrC s (0+(v.tmod (s.n:Nat)).toNat) (w.tdiv 64) cap).to s.le s.mo s.slo s.shi cap (mrC_bet hv _ _ hd0.1 _) yb k yc y hy hk) ?_
    all_goals refine ent_tau [0,1,2,3,4,5,6,7,8,9] ⟨?_,tMm,rfl⟩
    all_goals(repeat' first|exact fp|refine aN ?_ ?_)
    all_goals exact fun k _=>mrC_row s _ _ cap k
   ·intro _;(repeat' first|exact aq|refine aN ?_ ?_|exact tU);all_goals first|exact u0 (by omega)|(show(_:Int)≤_;omega)|omega|exact(by decide:(64:Int)≠0)|skip
    refine(t44 _ _).use [] ?_ trivial rfl;(repeat' first|exact aq|refine aN ?_ ?_|exact tU);all_goals first|exact u0 (by omega)|(show(_:Int)≤_;omega)|omega|exact(by decide:(64:Int)≠0)|skip
    refine CodeP.part (seg9c' s hv hn s.to s.le s.mo (mxI 1 (s.slo-1)) (mxI 1 (s.shi-1)) cap (mrD_bet hv _) yb k yc y hy hk) ?_;exact ent_tau [0,1,2,3,4,5,6,7,8,9] ⟨fPp,tMm,rfl⟩
theorem seg9bN(s:SD)(hv:s.Valid)(hn:0<s.n)(cap:Nat)(yb:Bool)(k yc:Nat)(y:Nat→Int)(hy: ∀j,0≤y j∧y j≤255)(hk:k≤9223372036854775807)(w v:Int)(hw:0≤w∧w≤255)(hvv:0≤v∧v≤255)(M:Nat)(hM:M=s.n):
  CodeP Tryz.prog none 7 (sufC Tryz.f9 4) ⟨T9b yb k yc w v,HS s++[some (.roa 1 k (rowU y)),some (.roc (svd s 5)),some (.cells [.osl s.t.bM 0 3 s.t.nM s.t.cM,.osl s.t.bS 1 2 s.t.nS s.t.cS,.osl s.t.bL 2 4 s.t.nL s.t.cL,.int .i64 s.slo,.int .i64 s.shi,.int .i64 s.pace,.slice 9 5 0 M cap]),some (.arr 5 M cap s.F)],[]⟩ (KRet E Tryz.f9 7 (.bool true) (HS s++[some (.roa 1 k (rowU y))])):=by
 subst hM;exact seg9b s hv hn cap yb k yc y hy hk w v hw hvv
theorem t9(s:SD)(ht:s.t.ok)(yb:Bool)(k yc:Nat)(y:Nat→Int)(hy: ∀j,0≤y j∧y j≤255)(hk:k≤9223372036854775807)(w v:Int)(hw:0≤w∧w≤255)(hvv:0≤v∧v≤255):
  CallP Tryz.prog 9 [SA s,.osl yb 6 1 k yc,.int .u8 w,.int .u8 v] (HS s++[some (.roa 1 k (rowU y))]) (Ret (.bool true) (HS s++[some (.roa 1 k (rowU y))])):=by
 have c38:=t38 s ht;obtain⟨A,hA⟩: ∃A,s.fineB=A:=⟨_,rfl⟩;rw[hA]at c38;cases A with
 |false=>
  refine callR (E:=E) E_ok Tryz.func9 rfl ?_;(repeat' first|exact aq|refine aN ?_ ?_|exact tU);all_goals try exact dd
  refine c38.use [0,1,2,3,4,5] ?_ (fPp) rfl;all_goals(repeat' first|exact aq|refine aN ?_ ?_|exact tU)
  all_goals try exact dd
  all_goals intro h1
  all_goals first|exact absurd h1 (by decide)|(cases h1;done)|skip
  all_goals(repeat' first|exact aq|refine aN ?_ ?_|exact tU)
  all_goals try exact dd
  refine t15.use [3,4] ?_ (fPp) rfl;(repeat' first|exact aq|refine aN ?_ ?_|exact tU);all_goals try exact dd
  exact ent_tau [0,1,2,3,4,5,6] ⟨fPp,tMm,rfl⟩
 |true=>
  have hv:=fine_yes hA;have hn5:=hv.2.2.2.1;obtain⟨Z,hZ⟩: ∃Z,decide (((s.n:Nat):Int)=0)=Z:=⟨_,rfl⟩;cases Z with
  |true=>
   refine callR (E:=E) E_ok Tryz.func9 rfl ?_;(repeat' first|exact aq|refine aN ?_ ?_|exact tU);all_goals try exact dd
   refine c38.use [0,1,2,3,4,5] ?_ (fPp) rfl;all_goals(repeat' first|exact aq|refine aN ?_ ?_|exact tU)
   all_goals try exact dd
   all_goals intro h1
   all_goals first|(exfalso;(try rw[hZ]at h1);exact tFx h1)|(exfalso;(try rw[hZ]at h1);exact fTx h1)|skip
   all_goals(repeat' first|exact aq|refine aN ?_ ?_|exact tU)
   all_goals try exact dd
   refine t15.use [3,4] ?_ (fPp) rfl;(repeat' first|exact aq|refine aN ?_ ?_|exact tU);all_goals try exact dd
   exact ent_tau [0,1,2,3,4,5,6] ⟨fPp,tMm,rfl⟩
  |false=>
   have hn:0<s.n:=by
    have:=of_decide_eq_false hZ;omega
   refine callRK (E:=E) E_ok 4 Tryz.func9 rfl ?_;(repeat' first|exact aq|refine aN ?_ ?_|exact tU);all_goals try exact dd
   refine c38.use [0,1,2,3,4,5] ?_ (fPp) rfl;all_goals(repeat' first|exact aq|refine aN ?_ ?_|exact tU)
   all_goals try exact dd
   all_goals intro h1
   all_goals first|(exfalso;(try rw[hZ]at h1);exact tFx h1)|(exfalso;(try rw[hZ]at h1);exact fTx h1)|skip
   all_goals(repeat' first|exact aq|refine aN ?_ ?_|exact tU)
   all_goals try exact dd
   all_goals first|exact om|(show _*40≤140737488355328;omega)|exact fun k hk=>rfl|skip
   intro cap h1 h2;(repeat' first|exact aq|refine aN ?_ ?_|exact tU);refine CodeP.pre ?_ (seg9bN s hv hn cap yb k yc y hy hk w v hw hvv (0+s.n) (Nat.zero_add _));refine ent_tau [0,1,2,3,4,5,6,7,8,10] ⟨?_,tMm,rfl⟩;(repeat' first|exact fp|refine aN ?_ ?_);intro k hk;show selL (decide (k<0)) _ (s.F (0+(k-0)))=s.F k;rw[decide_eq_false (by omega),selL_false,Nat.sub_zero,Nat.zero_add]
end Go.Proofs.YthnhlkflkidemaaGreatDoor
