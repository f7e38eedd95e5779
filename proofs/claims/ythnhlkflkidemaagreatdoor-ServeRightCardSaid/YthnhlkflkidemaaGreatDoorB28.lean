/-
  Parts: V24, V22.
-/
import Derived.Test.YthnhlkflkidemaaGreatDoorB24
import Derived.Test.YthnhlkflkidemaaGreatDoorB26
import Derived.Test.YthnhlkflkidemaaGreatDoorB27
import Derived.Test.YthnhlkflkidemaaGreatDoorB18
set_option linter.unusedVariables false
set_option linter.unusedSimpArgs false
/-
 Is a bather, or a plan, one of a serve? (--fast)
-/
namespace Go.Proofs.YthnhlkflkidemaaGreatDoor
open Go Go.Sy
set_option maxRecDepth 100000
set_option maxHeartbeats 4000000
attribute [local irreducible] CallP CodeP Ent YieldP
def svd(s:SD)(i:Nat):List SV:=[.osl s.t.bM 0 3 s.t.nM s.t.cM,.osl s.t.bS 1 2 s.t.nS s.t.cS,.osl s.t.bL 2 4 s.t.nL s.t.cL,.int .i64 s.slo,.int .i64 s.shi,.int .i64 s.pace,.osl s.b i 5 s.n s.cap]
noncomputable def SA(s:SD):SV:= .agg (svd s 5)
def HM(s:SD):SHeap:=[some (.roa 3 s.t.nM (row3 s.t.mi s.t.mlo s.t.mhi)),some (.roa 2 s.t.nS (row2 s.t.slo s.t.shi)),some (.roa 4 s.t.nL (row4 s.t.lp s.t.lm s.t.llo s.t.lhi)),
 some (.glob 1 [.int .i64 0,.int .i64 1,.int .i64 3,.int .i64 6,.int .i64 9,.int .i64 11,.int .i64 12]),some db,some (.roa 5 s.n s.F),some (.roc (svd s 5))]
theorem t63(s:SD)(b:Int)(hn:s.n≤5):CallP Tryz.prog 63 [.ptr 7 0,.ptr 6 0] (HM s++[some (.roc [.int .i64 b])]) (Ret (.bool (inB b 0 ((s.n:Nat)-1))) (HM s++[some (.roc [.int .i64 b])])):=by
 refine callR (E:=E) E_ok Tryz.func63 rfl ?_;(repeat' first|exact aq|refine aN ?_ ?_|exact tU);all_goals try exact dd
 refine(t64 _ _ _).use [] ?_ trivial rfl;(repeat' first|exact aq|refine aN ?_ ?_|exact tU);exact ent_tau [0,1,2,3,4,5,6,7] ⟨fPp,tMm,rfl⟩
theorem t142(s:SD)(n:Int)(hw:s.t.nS≤4):CallP Tryz.prog 142 [.int .i64 n,.ptr 6 0] (HM s) (Ret (.bool (!inB n 0 ((s.t.nS:Nat)-1))) (HM s)):=by
 refine callR (E:=E) E_ok Tryz.func142 rfl ?_;(repeat' first|exact aq|refine aN ?_ ?_|exact tU);all_goals try exact dd
 refine(t64 _ _ _).use [] ?_ trivial rfl;(repeat' first|exact aq|refine aN ?_ ?_|exact tU);exact ent_tau [0,1,2,3,4,5,6] ⟨fPp,tMm,rfl⟩
def badP(s:SD)(pl:Nat→Int)(k:Nat):Bool:=!inB (pl k) 0 ((s.t.nS:Nat)-1)
def HPl(s:SD)(m:Nat)(pl:Nat→Int):SHeap:=HM s++[some (.roa 1 m (rowI pl))]
theorem t197(s:SD)(hw:s.t.nS≤4)(bp:Bool)(m cp:Nat)(pl:Nat→Int)(hm:m≤9223372036854775807):CallP Tryz.prog 197 [.osl bp 7 1 m cp,.fn (.func 142) [] [.ptr 6 0]] (HPl s m pl) (Ret (.int .i64 (ixS (badP s pl) m 0)) (HPl s m pl)):=by
 obtain⟨V,hV⟩: ∃V,ixS (badP s pl) m 0=V:=⟨_,rfl⟩;rw[hV];refine callR (E:=E) E_ok Tryz.func197 rfl ?_;(repeat' first|exact aq|refine aN ?_ ?_|exact tU);all_goals try exact dd
 refine loopP E_ok [0,1,4,7] (fun i:Nat=>[(8,.int .i64 (i:Nat))]) (fun _ H=>H) (fun i=>i≤m∧ixS (badP s pl) (m-i) i=V) (fun i=>m-i) 0 ⟨Nat.zero_le _,hV⟩ ?_ ?_
 ·exact ent_tau [0,1,2,3,4,5,6,7] ⟨fPp,tMm,rfl⟩
 rintro i ⟨hi,hc⟩;have ei:=z1 i;refine And.intro ?_ (And.intro (fun hb=>?_) (fun hb=>?_))
 ·(repeat' first|exact aq|refine aN ?_ ?_|exact tU)
 ·have hin:i<m:=by
   have:=of_decide_eq_true hb;omega
  have hr:m-i=(m-(i+1))+1:=by omega
  rw[hr,ixS]at hc;have c:=t142 s (pl (0+((i:Nat):Int).toNat)) hw;rw[show(!inB (pl (0+((i:Nat):Int).toNat)) 0 ((s.t.nS:Nat)-1))=badP s pl i by rw[ei];rfl]at c;obtain⟨B,hB⟩: ∃B,badP s pl i=B:=⟨_,rfl⟩;rw[hB]at c hc;(repeat' first|exact aq|refine aN ?_ ?_|exact tU);all_goals try exact dd
  refine c.use [0,1,2,3,4,5,6] ?_ (fPp) rfl;cases B
  ·all_goals(repeat' first|exact aq|refine aN ?_ ?_|exact tU)
   all_goals try exact dd
   all_goals intro hx
   all_goals first|exact absurd hx (by decide)|(cases hx;done)|skip
   all_goals(repeat' first|exact aq|refine aN ?_ ?_|exact tU)
   all_goals try exact dd
   refine⟨i+1,⟨hin,hc⟩,by omega,?_⟩;exact ent_tau [0,1,2,3,4,5,6,7] ⟨fPp,tMm,rfl⟩
  ·simp only at hc;subst hc;all_goals(repeat' first|exact aq|refine aN ?_ ?_|exact tU)
   all_goals try exact dd
   all_goals intro hx
   all_goals first|exact absurd hx (by decide)|(cases hx;done)|skip
   all_goals(repeat' first|exact aq|refine aN ?_ ?_|exact tU)
   all_goals try exact dd
   exact ent_tau [0,1,2,3,4,5,6,7] ⟨fPp,tMm,rfl⟩
 ·have hin:i=m:=by
   have:=of_decide_eq_false hb;omega
  subst hin;rw[Nat.sub_self,ixS]at hc;subst hc;(repeat' first|exact aq|refine aN ?_ ?_|exact tU);exact ent_tau [0,1,2,3,4,5,6,7] ⟨fPp,tMm,rfl⟩
theorem t144(s:SD)(hw:s.t.nS≤4)(bp:Bool)(m cp:Nat)(pl:Nat→Int)(hm:m≤9223372036854775807):CallP Tryz.prog 144 [.osl bp 7 1 m cp,.fn (.func 142) [] [.ptr 6 0]] (HPl s m pl) (Ret (.bool ((List.range m).any (badP s pl))) (HPl s m pl)):=by
 have e:=ixS_any (badP s pl) m 0;rw[show(fun k=>badP s pl (0+k))=badP s pl from funext fun k=>by rw[Nat.zero_add]]at e;rw[←e];refine callR (E:=E) E_ok Tryz.func144 rfl ?_;(repeat' first|exact aq|refine aN ?_ ?_|exact tU);refine(t197 s hw bp m cp pl hm).use [0,1,2,3,4,5,6,7] ?_ (fPp) rfl;(repeat' first|exact aq|refine aN ?_ ?_|exact tU);exact ent_tau [0,1,2,3,4,5,6,7] ⟨fPp,tMm,rfl⟩
def isPl(s:SD)(m:Nat)(pl:Nat→Int):Bool:=decide (((m:Nat):Int)=(s.n:Nat))&&!(List.range m).any (badP s pl)
def HQl(s:SD)(bp:Bool)(m cp:Nat)(pl:Nat→Int):SHeap:=HM s++[some (.roa 1 m (rowI pl)),some (.roc [.osl bp 7 1 m cp]),some (.roc [.fn (.func 142) [] [.ptr 6 0]])]
theorem t143(s:SD)(hw:s.t.nS≤4)(bp:Bool)(m cp:Nat)(pl:Nat→Int)(hm:m≤9223372036854775807):CallP Tryz.prog 143 [.ptr 8 0,.ptr 6 0,.ptr 9 0] (HQl s bp m cp pl) (Ret (.bool (isPl s m pl)) (HQl s bp m cp pl)):=by
 have c:=t144 s hw bp m cp pl hm;unfold isPl;obtain⟨A,hA⟩: ∃A,(List.range m).any (badP s pl)=A:=⟨_,rfl⟩;rw[hA]at c⊢;obtain⟨D,hD⟩: ∃D,decide (((m:Nat):Int)=(s.n:Nat))=D:=⟨_,rfl⟩;refine callR (E:=E) E_ok Tryz.func143 rfl ?_;(repeat' first|exact aq|refine aN ?_ ?_|exact tU);all_goals try exact dd
 ·intro h1;have h1:decide (((m:Nat):Int)=(s.n:Nat))=true:=h1;refine c.use [0,1,2,3,4,5,6,7] ?_ (fPp) rfl;(repeat' first|exact aq|refine aN ?_ ?_|exact tU);all_goals try exact dd
  refine ent_tau [0,1,2,3,4,5,6,7,8,9] ⟨fPp,⟨rfl,congrArg SV.bool ?_,trivial⟩,rfl⟩;rw[h1];rfl
 ·intro h1;have h1:decide (((m:Nat):Int)=(s.n:Nat))=false:=h1;(repeat' first|exact aq|refine aN ?_ ?_|exact tU);all_goals try exact dd
  all_goals first|exact(fun h=>Bool.noConfusion (h1.symm.trans h))|skip
  refine ent_tau [0,1,2,3,4,5,6,7,8,9] ⟨fPp,⟨rfl,congrArg SV.bool ?_,trivial⟩,rfl⟩;rw[h1];rfl
theorem t67(s:SD)(bp:Bool)(m cp:Nat)(pl:Nat→Int):CallP Tryz.prog 67 [SA s,.osl bp 6 1 m cp] [some (.roa 3 s.t.nM (row3 s.t.mi s.t.mlo s.t.mhi)),some (.roa 2 s.t.nS (row2 s.t.slo s.t.shi)),some (.roa 4 s.t.nL (row4 s.t.lp s.t.lm s.t.llo s.t.lhi)),some .dead,some .dead,some (.roa 5 s.n s.F),some (.roa 1 m (rowI pl))]
  (Ret (.fn (.func 143) [] [.ptr 8 0,.ptr 7 0,.ptr 9 0]) [some (.roa 3 s.t.nM (row3 s.t.mi s.t.mlo s.t.mhi)),some (.roa 2 s.t.nS (row2 s.t.slo s.t.shi)),some (.roa 4 s.t.nL (row4 s.t.lp s.t.lm s.t.llo s.t.lhi)),some .dead,some .dead,some (.roa 5 s.n s.F),some (.roa 1 m (rowI pl)),some (.cells (svd s 5)),some (.cells [.osl bp 6 1 m cp]),some (.cells [.fn (.func 142) [] [.ptr 7 0]])]):=by
 refine callR (E:=E) E_ok Tryz.func67 rfl ?_;(repeat' first|exact aq|refine aN ?_ ?_|exact tU);exact ent_tau [0,1,2,3,4,5,6,7,8,9] ⟨fPp,tMm,rfl⟩
open Go Go.Sy Srv Kuhn
set_option maxHeartbeats 16000000
def pl62_22s:Plan:=eg [0,1,2,3,4,6,7,9,10]<| .alt 5 (eg [8,11]<| .alt 12 (.done) .no) .no
def KRetK(E:Env)(f:Func)(n:Nat)(K:CE→SHeap→Prop):SE→Go.Sy.St→Prop:=fun se s=>retKS E f.results.toList (fun ce h1=> ∃ce' h2,K ce' h2∧EntC n ce h1 ce' h2) se s []
noncomputable def SD.RM(s:SD)(i:Nat):Nat:=if i<s.n then s.rightM i else 0
theorem RM_at{s:SD}{i:Nat}(h:i<s.n):s.RM i=s.rightM i:=by
 unfold SD.RM;rw[if_pos h]
noncomputable def SD.RMp(s:SD)(i p:Nat)(k:Nat):Nat:=if k<i then s.rightM k else if k=i then maskO (fun p=>s.okS i p) p else 0
noncomputable def HZ(s:SD)(b:Int)(m:Nat)(pl:Nat→Int):SHeap:=[some (.roa 3 s.t.nM (row3 s.t.mi s.t.mlo s.t.mhi)),some (.roa 2 s.t.nS (row2 s.t.slo s.t.shi)),some (.roa 4 s.t.nL (row4 s.t.lp s.t.lm s.t.llo s.t.lhi)),
 some (.glob 1 [.int .i64 0,.int .i64 1,.int .i64 3,.int .i64 6,.int .i64 9,.int .i64 11,.int .i64 12]),some db,some (.roa 5 s.n s.F),some (.roa 1 0 (rowN id)),some (.roc [.int .i64 b]),some .dead,some .dead,some (.roa 1 m (rowI pl)),some .dead]
def tm62:Tm:=[none,none,some (none,.ptr 12 0)]++List.replicate 187 none
def K62ok(s:SD)(b:Int)(m:Nat)(pl:Nat→Int):CE→SHeap→Prop:=fun ce h'=>ce= .ret (.ptr 12 0)∧((s.n=0∧h'=HZ s b m pl++[some (.cells (bcv s s.RM 5 (.osl false 6 1 0 0)))])∨
 (0<s.n∧ ∃cap,s.n≤cap∧cap≤9223372036854775807∧h'=HZ s b m pl++[some (.cells (bcv s s.RM 5 (.slice 13 1 0 s.n cap))),some (.arr 1 s.n cap (rowN (srtF s.fr s.n)))]))
theorem RMp_next{s:SD}{i:Nat} :s.RMp i s.t.nS=s.RMp (i+1) 0:=by
 funext k;unfold SD.RMp SD.rightM;rcases Nat.lt_trichotomy k i with c|c|c
 ·rw[if_pos c,if_pos (by omega)]
 ·subst c;rw[if_neg (by omega),if_pos rfl,if_pos (by omega)]
 ·rw[if_neg (by omega),if_neg (by omega),if_neg (by omega)];split
  ·rw[maskO_zero]
  ·rfl
theorem RMp_zero(s:SD):s.RMp 0 0=fun _=>0:=by
 funext k;unfold SD.RMp;rw[if_neg (by omega)];split
 ·rw[maskO_zero]
 ·rfl
theorem RMp_all(s:SD):s.RMp s.n 0=s.RM:=by
 funext k;unfold SD.RMp SD.RM;split
 ·rfl
 ·split
  ·rw[maskO_zero]
  ·rfl
theorem RMp_no{s:SD}{i q:Nat}(h:s.okS i q=false):s.RMp i (q+1)=s.RMp i q:=by
 funext k;unfold SD.RMp;split
 ·rfl
 ·split
  ·exact maskO_no h
  ·rfl
theorem or64{a b:Nat}(ha:a<2^62)(hb:b<2^62):bitOp .or .i64 (a:Int) (b:Int)=((a|||b:Nat):Int):=by
 show IntKind.wrap .i64 ((BitVec.ofInt 64 (a:Int)|||BitVec.ofInt 64 (b:Int)).toNat:Int)=_;rw[ofInt_nat,ofInt_nat,BitVec.toNat_or,BitVec.toNat_ofNat,BitVec.toNat_ofNat,Nat.mod_eq_of_lt (by omega),Nat.mod_eq_of_lt (by omega)];exact wrap64 _ (Nat.or_lt_two_pow (by omega) (by omega))
theorem RMp_lt(s:SD)(hv:s.Valid)(i q k:Nat)(hq:q≤4):s.RMp i q k<16:=by
 unfold SD.RMp;split
 ·exact rightM_lt hv k
 ·split
  ·exact Nat.lt_of_lt_of_le (maskO_lt _ _) (Nat.pow_le_pow_right (n:=2) (by omega) hq)
  ·omega
theorem upR{s:SD}(hv:s.Valid){i q:Nat}(hi:i<5)(hq:q<4)(hb:s.okS i q=true):
  ((List.range 5).map fun m=>SV.int .i64 (if m=((i:Nat):Int).toNat then bitOp .or .i64 ([((s.RMp i q 0:Nat):Int),(s.RMp i q 1:Nat),(s.RMp i q 2:Nat),(s.RMp i q 3:Nat),(s.RMp i q 4:Nat)].getD ((i:Nat):Int).toNat 0) (1*2^((q:Nat):Int).toNat)
   else [((s.RMp i q 0:Nat):Int),(s.RMp i q 1:Nat),(s.RMp i q 2:Nat),(s.RMp i q 3:Nat),(s.RMp i q 4:Nat)].getD m 0))=(List.range 5).map fun m=>SV.int .i64 (s.RMp i (q+1) m:Nat):=by
 refine List.map_congr_left fun m hm=>congrArg (SV.int .i64) ?_
 have hm5:=List.mem_range.1 hm;have hg:=get5 (s.RMp i q) hi;have hg2:=get5 (s.RMp i q) hm5;rw[Int.toNat_natCast]at hg hg2;rw[Int.toNat_natCast,hg,hg2,pow_int];have hlt:=RMp_lt s hv i q i (by omega);by_cases c:m=i
 ·subst c;rw[if_pos rfl,or64 (by omega) (Nat.lt_of_le_of_lt (Nat.pow_le_pow_right (by decide) (show q≤4 by omega)) (by decide))];unfold SD.RMp;rw[if_neg (by omega),if_pos rfl,if_neg (by omega),if_pos rfl,maskO_yes hb]
 ·rw[if_neg c];unfold SD.RMp;split
  ·rfl
  ·rfl
theorem rowI_next{i k:Nat}{g:Nat→List SV}(hk:k<i+1+1)(hg:g 0=[.int .i64 ((i+1:Nat):Int)]:=by rfl):selL (decide (k<i+1)) (rowN id k) (g (0+(k-(i+1))))=rowN id k:=by
 by_cases c:k<i+1
 ·rw[decide_eq_true c,selL_true]
 ·rw[decide_eq_false c,selL_false,show 0+(k-(i+1))=0 by omega,hg,show k=i+1 by omega];rfl
theorem p1q{q:Nat}(h:q<4): -9223372036854775808≤1*(2:Int)^((q:Nat):Int).toNat∧1*(2:Int)^((q:Nat):Int).toNat≤9223372036854775807:=by
 have:q=0∨q=1∨q=2∨q=3:=by omega
 rcases this with h|h|h|h<;>subst h<;>decide
theorem t140'(s:SD)(R:Nat→Nat)(cap:Nat){N:Nat}(hN:N=s.n)(hn:s.n≤5)(hr: ∀k,k<s.n→0≤s.fr k∧s.fr k≤1000):CallP Tryz.prog 140 [.slice 5 1 0 N cap,.fn (.func 139) [.ptr 4 0] []] [some .dead,some .dead,some .dead,some (.roa 5 s.n s.F),some (.roc (bcv s R 3 (.slice 5 1 0 N cap))),some (.arr 1 N cap (rowN id))]
  (Ret (.tup []) [some .dead,some .dead,some .dead,some (.roa 5 s.n s.F),some (.roc (bcv s R 3 (.slice 5 1 0 N cap))),some (.arr 1 N cap (rowN (srtF s.fr s.n)))]):=by
 subst hN;exact t140 s R cap hn hr
theorem seg62c(s:SD)(b:Int)(m:Nat)(pl:Nat→Int)(hv:s.Valid)(ha:s.t.all≠[]){K:CE→SHeap→Prop}(hK: ∀ce h',K62ok s b m pl ce h'→K ce h'):CodeP Tryz.prog none 12 (sufC Tryz.f62 8) ⟨tm62,HZ s b m pl++[some (.cells (svd s 5))],[]⟩ (KRetK E Tryz.f62 12 K):=by
 have hn5:=hv.2.2.2.1;have hok:=hv.ok;have hw:=hok.w;refine codeP_XK E_ok 50 ?_;(repeat' first|exact aq|refine aN ?_ ?_|exact tU);all_goals try exact dd
 refine loopP E_ok [2,10,129,130] (fun x:Nat×Nat=>[(131,.int .i64 (x.1:Nat))]) (fun x _=>match x.1 with
   |0=>HZ s b m pl++[some (.cells (svd s 5)),some (.cells (bcv s (s.RMp 0 0) 5 .snil))]
   |j+1=>HZ s b m pl++[some (.cells (svd s 5)),some (.cells (bcv s (s.RMp (j+1) 0) 5 (.slice 14 1 0 (j+1) x.2))),some (.arr 1 (j+1) x.2 (rowN id))])
  (fun x=>x.1≤s.n∧(0<x.1→x.1≤x.2∧x.2≤9223372036854775807)) (fun x=>s.n-x.1) (0,0) ⟨Nat.zero_le _,fun h=>absurd h (Nat.lt_irrefl 0)⟩ ?_ ?_
 ·simp only[RMp_zero];exact ent_tau [0,1,2,3,4,5,6,7,8,9,10,11,12,13] ⟨fPp,tMm,rfl⟩
 rintro⟨i,cap⟩ ⟨hi,hcap⟩;dsimp only at hi hcap;have ei:=z1 i;cases i with
 |zero=>
  refine And.intro ?_ (And.intro (fun hc=>?_) (fun hc=>?_))
  ·(repeat' first|exact aq|refine aN ?_ ?_|exact tU)
  ·have hin:0<s.n:=by
    have:=of_decide_eq_true hc;omega
   (repeat' first|exact aq|refine aN ?_ ?_|exact tU);all_goals try exact dd
   all_goals first|decide|skip
   intro c5 h51 h52;(repeat' first|exact aq|refine aN ?_ ?_|exact tU);all_goals try exact dd
   refine loopP E_ok [2,10,129,130,131,11,12,148,149] (fun q:Nat=>[(150,.int .i64 (q:Nat))]) (fun q _=>HZ s b m pl++[some (.cells (svd s 5)),some (.cells (bcv s (s.RMp 0 q) 5 (.slice 16 1 0 (0+1) c5))),some (.cells (s.F (0+((0:Nat):Int).toNat))),some .dead,some (.arr 1 (0+1) c5 (rowN id))])
    (fun q=>q≤s.t.nS) (fun q=>s.t.nS-q) 0 (Nat.zero_le _) ?_ ?_
   ·refine ent_tau [0,1,2,3,4,5,6,7,8,9,10,11,12,13,14,15,16] ⟨?_,tMm,rfl⟩;(repeat' first|exact fp|refine aN ?_ ?_);exact fun k hk=>by
     have h0:k=0:=Nat.lt_one_iff.1 hk;subst h0;rfl
   intro q hq;have eq:=z1 q;refine And.intro ?_ (And.intro (fun hc2=>?_) (fun hc2=>?_))
   ·(repeat' first|exact aq|refine aN ?_ ?_|exact tU)
   ·have hqn:q<s.t.nS:=by
     have:=of_decide_eq_true hc2;omega
    have c15:CallP Tryz.prog 136 [s.t.A,.int .i64 (q:Nat),.int .i64 (s.le (0+((0:Nat):Int).toNat)),.int .i64 (s.mo (0+((0:Nat):Int).toNat))] s.t.HG (KSp s.t ⟨s.spn 0 q,0⟩):=by
     have h:=u15 s.t (q:Nat) (s.le 0) (s.mo 0);rw[served_ok hv ha hin hqn]at h;rw[z1];exact h
    have hany:=any_ok hv (i:=0) (p:=q) hin;have hto:=hok.to 0 hin;(repeat' first|exact aq|refine aN ?_ ?_|exact tU);all_goals try exact dd
    refine CallP.frameH c15 [0,1,2,3,4] (fPp) rfl ?_;rintro ce h' (⟨h0,rfl,rfl⟩|⟨h0,cap2,hc5,hc6,rfl,rfl⟩)
    ·have hno:s.okS 0 q=false:=by
      have h0:s.spn 0 q=[]:=h0;rw[←hany,h0];rfl
     refine⟨rfl,?_⟩;(repeat' first|exact aq|refine aN ?_ ?_|exact tU);all_goals try exact dd
     refine(t137n _ _ _ _ _).use [14] ?_ (fPp) rfl;all_goals(repeat' first|exact aq|refine aN ?_ ?_|exact tU)
     all_goals try exact dd
     all_goals intro hx
     all_goals first|exact absurd hx (by decide)|(cases hx;done)|skip
     all_goals(repeat' first|exact aq|refine aN ?_ ?_|exact tU)
     all_goals try exact dd
     refine⟨q+1,hqn,by omega,?_⟩;refine ent_tau [0,1,2,3,4,5,6,7,8,9,10,11,12,13,14,15,16] ⟨?_,tMm,rfl⟩;(repeat' first|exact fp|refine aN ?_ ?_);exact congrArg (fun R=>bcv s R 5 (.slice 16 1 0 (0+1) c5)) (RMp_no hno).symm
    ·have c137:=t137 (s.spn 0 q) cap2 (Nat.le_trans hc5 hc6) (s.hut (0+((0:Nat):Int).toNat)) (s.fr (0+((0:Nat):Int).toNat)) (s.to (0+((0:Nat):Int).toNat)) (s.le (0+((0:Nat):Int).toNat)) (s.mo (0+((0:Nat):Int).toNat)) (by rw[z1];omega);rw[show(List.range (s.spn 0 q).length).any (inS (s.spn 0 q) (s.fr (0+((0:Nat):Int).toNat)) (s.to (0+((0:Nat):Int).toNat)))=s.okS 0 q by rw[z1];exact hany]at c137;obtain⟨B,hB⟩: ∃B,s.okS 0 q=B:=⟨_,rfl⟩;rw[hB]at c137;refine⟨rfl,?_⟩;(repeat' first|exact aq|refine aN ?_ ?_|exact tU);all_goals try exact dd
     refine c137.use [17,14] ?_ (fPp) rfl;cases B
     ·all_goals(repeat' first|exact aq|refine aN ?_ ?_|exact tU)
      all_goals try exact dd
      all_goals intro hx
      all_goals first|exact absurd hx (by decide)|(cases hx;done)|skip
      all_goals(repeat' first|exact aq|refine aN ?_ ?_|exact tU)
      all_goals try exact dd
      refine⟨q+1,hqn,by omega,?_⟩;refine ent_tau [0,1,2,3,4,5,6,7,8,9,10,11,12,13,14,15,16] ⟨?_,tMm,rfl⟩;(repeat' first|exact fp|refine aN ?_ ?_);exact congrArg (fun R=>bcv s R 5 (.slice 16 1 0 (0+1) c5)) (RMp_no hB).symm
     ·all_goals(repeat' first|exact aq|refine aN ?_ ?_|exact tU)
      all_goals try exact dd
      all_goals intro hx
      all_goals first|exact absurd hx (by decide)|(cases hx;done)|skip
      all_goals(repeat' first|exact aq|refine aN ?_ ?_|exact tU)
      refine drawP E_ok [] pl62_22s (by kernel_rfl) ?_;(repeat' first|exact aq|refine aN ?_ ?_|exact tU);all_goals try exact dd
      all_goals first|exact(p1q (show q<4 by omega)).1|exact(p1q (show q<4 by omega)).2|skip
      refine⟨q+1,hqn,by omega,?_⟩;refine ent_tau [0,1,2,3,4,5,6,7,8,9,10,11,12,13,14,15,16] ⟨?_,tMm,rfl⟩;(repeat' first|exact fp|refine aN ?_ ?_);exact(congrArg (fun l=>splice (bcv s (s.RMp 0 q) 5 (.slice 16 1 0 (0+1) c5)) 7 l) (upR hv (i:=0) (by omega) (by omega) hB)).trans rfl
   ·have hqn:q=s.t.nS:=by
     have:=of_decide_eq_false hc2;omega
    subst hqn;(repeat' first|exact aq|refine aN ?_ ?_|exact tU);all_goals try exact dd
    refine⟨(0+1,c5),⟨hin,fun _=>⟨h51,h52⟩⟩,by simp only;omega,?_⟩;refine ent_tau [0,1,2,3,4,5,6,7,8,9,10,11,12,13,16] ⟨?_,tMm,rfl⟩;(repeat' first|exact fp|refine aN ?_ ?_);all_goals exact congrArg (fun R=>bcv s R 5 (.slice 16 1 0 (0+1) c5)) (RMp_next (s:=s) (i:=0))
  ·have hin:s.n=0:=by
    have:=of_decide_eq_false hc;omega
   (repeat' first|exact aq|refine aN ?_ ?_|exact tU);all_goals try exact dd
   refine t140n.use [13] ?_ (fPp) rfl;(repeat' first|exact aq|refine aN ?_ ?_|exact tU);all_goals try exact dd
   refine⟨.ret (.ptr 12 0),_,hK _ _ ⟨rfl,Or.inl ⟨hin,rfl⟩⟩,?_⟩;refine Ent.trans (t:=⟨[some (none,.ptr 12 0)],HZ s b m pl++[some (.cells (bcv s s.RM 5 .snil))],[]⟩) ?_ (entCells (i:=12) (cs:=bcv s s.RM 5 .snil) (cs':=bcv s s.RM 5 (.osl false 6 1 0 0)) rfl (fun η=>by simp[bcv,denL,den]));refine ent_tau [0,1,2,3,4,5,6,7,8,9,10,11,13] ⟨?_,tMm,rfl⟩;(repeat' first|exact fp|refine aN ?_ ?_);exact congrArg (fun R=>bcv s R 5 .snil) (show s.RMp 0 0=s.RM from hin▸RMp_all s)
 |succ i=>
  obtain⟨hc1,hc3⟩:=hcap (Nat.succ_pos i);refine And.intro ?_ (And.intro (fun hc=>?_) (fun hc=>?_))
  ·(repeat' first|exact aq|refine aN ?_ ?_|exact tU)
  ·have hin:i+1<s.n:=by
    have:=of_decide_eq_true hc;omega
   (repeat' first|exact aq|refine aN ?_ ?_|exact tU);all_goals try exact dd
   all_goals first|(show(i+1+1)*8≤140737488355328;omega)|exact one1S rfl|(intro k hk;have h0:k=0:=Nat.lt_one_iff.1 hk;subst h0;rfl)|skip
   intro c5 h51 h52;(repeat' first|exact aq|refine aN ?_ ?_|exact tU);all_goals try exact dd
   refine loopP E_ok [2,10,129,130,131,11,12,148,149] (fun q:Nat=>[(150,.int .i64 (q:Nat))]) (fun q _=>HZ s b m pl++[some (.cells (svd s 5)),some (.cells (bcv s (s.RMp (i+1) q) 5 (.slice 17 1 0 ((i+1)+1) c5))),some .dead,some (.cells (s.F (0+(((i+1):Nat):Int).toNat))),some .dead,some (.arr 1 ((i+1)+1) c5 (rowN id))])
    (fun q=>q≤s.t.nS) (fun q=>s.t.nS-q) 0 (Nat.zero_le _) ?_ ?_
   ·refine ent_tau [0,1,2,3,4,5,6,7,8,9,10,11,12,13,14,15,16,17] ⟨?_,tMm,rfl⟩;(repeat' first|exact fp|refine aN ?_ ?_);exact fun k hk=>rowI_next hk
   intro q hq;have eq:=z1 q;refine And.intro ?_ (And.intro (fun hc2=>?_) (fun hc2=>?_))
   ·(repeat' first|exact aq|refine aN ?_ ?_|exact tU)
   ·have hqn:q<s.t.nS:=by
     have:=of_decide_eq_true hc2;omega
    have c15:CallP Tryz.prog 136 [s.t.A,.int .i64 (q:Nat),.int .i64 (s.le (0+(((i+1):Nat):Int).toNat)),.int .i64 (s.mo (0+(((i+1):Nat):Int).toNat))] s.t.HG (KSp s.t ⟨s.spn (i+1) q,0⟩):=by
     have h:=u15 s.t (q:Nat) (s.le (i+1)) (s.mo (i+1));rw[served_ok hv ha hin hqn]at h;rw[z1];exact h
    have hany:=any_ok hv (i:=(i+1)) (p:=q) hin;have hto:=hok.to (i+1) hin;(repeat' first|exact aq|refine aN ?_ ?_|exact tU);all_goals try exact dd
    refine CallP.frameH c15 [0,1,2,3,4] (fPp) rfl ?_;rintro ce h' (⟨h0,rfl,rfl⟩|⟨h0,cap2,hc5,hc6,rfl,rfl⟩)
    ·have hno:s.okS (i+1) q=false:=by
      have h0:s.spn (i+1) q=[]:=h0;rw[←hany,h0];rfl
     refine⟨rfl,?_⟩;(repeat' first|exact aq|refine aN ?_ ?_|exact tU);all_goals try exact dd
     refine(t137n _ _ _ _ _).use [15] ?_ (fPp) rfl;all_goals(repeat' first|exact aq|refine aN ?_ ?_|exact tU)
     all_goals try exact dd
     all_goals intro hx
     all_goals first|exact absurd hx (by decide)|(cases hx;done)|skip
     all_goals(repeat' first|exact aq|refine aN ?_ ?_|exact tU)
     all_goals try exact dd
     refine⟨q+1,hqn,by omega,?_⟩;refine ent_tau [0,1,2,3,4,5,6,7,8,9,10,11,12,13,14,15,16,17] ⟨?_,tMm,rfl⟩;(repeat' first|exact fp|refine aN ?_ ?_);exact congrArg (fun R=>bcv s R 5 (.slice 17 1 0 ((i+1)+1) c5)) (RMp_no hno).symm
    ·have c137:=t137 (s.spn (i+1) q) cap2 (Nat.le_trans hc5 hc6) (s.hut (0+(((i+1):Nat):Int).toNat)) (s.fr (0+(((i+1):Nat):Int).toNat)) (s.to (0+(((i+1):Nat):Int).toNat)) (s.le (0+(((i+1):Nat):Int).toNat)) (s.mo (0+(((i+1):Nat):Int).toNat)) (by rw[z1];omega);rw[show(List.range (s.spn (i+1) q).length).any (inS (s.spn (i+1) q) (s.fr (0+(((i+1):Nat):Int).toNat)) (s.to (0+(((i+1):Nat):Int).toNat)))=s.okS (i+1) q by rw[z1];exact hany]at c137;obtain⟨B,hB⟩: ∃B,s.okS (i+1) q=B:=⟨_,rfl⟩;rw[hB]at c137;refine⟨rfl,?_⟩;(repeat' first|exact aq|refine aN ?_ ?_|exact tU);all_goals try exact dd
     refine c137.use [18,15] ?_ (fPp) rfl;cases B
     ·all_goals(repeat' first|exact aq|refine aN ?_ ?_|exact tU)
      all_goals try exact dd
      all_goals intro hx
      all_goals first|exact absurd hx (by decide)|(cases hx;done)|skip
      all_goals(repeat' first|exact aq|refine aN ?_ ?_|exact tU)
      all_goals try exact dd
      refine⟨q+1,hqn,by omega,?_⟩;refine ent_tau [0,1,2,3,4,5,6,7,8,9,10,11,12,13,14,15,16,17] ⟨?_,tMm,rfl⟩;(repeat' first|exact fp|refine aN ?_ ?_);exact congrArg (fun R=>bcv s R 5 (.slice 17 1 0 ((i+1)+1) c5)) (RMp_no hB).symm
     ·all_goals(repeat' first|exact aq|refine aN ?_ ?_|exact tU)
      all_goals try exact dd
      all_goals intro hx
      all_goals first|exact absurd hx (by decide)|(cases hx;done)|skip
      all_goals(repeat' first|exact aq|refine aN ?_ ?_|exact tU)
      refine drawP E_ok [] pl62_22s (by kernel_rfl) ?_;(repeat' first|exact aq|refine aN ?_ ?_|exact tU);all_goals try exact dd
      all_goals first|exact(p1q (show q<4 by omega)).1|exact(p1q (show q<4 by omega)).2|skip
      refine⟨q+1,hqn,by omega,?_⟩;refine ent_tau [0,1,2,3,4,5,6,7,8,9,10,11,12,13,14,15,16,17] ⟨?_,tMm,rfl⟩;(repeat' first|exact fp|refine aN ?_ ?_);exact(congrArg (fun l=>splice (bcv s (s.RMp (i+1) q) 5 (.slice 17 1 0 ((i+1)+1) c5)) 7 l) (upR hv (i:=(i+1)) (by omega) (by omega) hB)).trans rfl
   ·have hqn:q=s.t.nS:=by
     have:=of_decide_eq_false hc2;omega
    subst hqn;(repeat' first|exact aq|refine aN ?_ ?_|exact tU);all_goals try exact dd
    refine⟨((i+1)+1,c5),⟨hin,fun _=>⟨h51,h52⟩⟩,by simp only;omega,?_⟩;refine ent_tau [0,1,2,3,4,5,6,7,8,9,10,11,12,13,17] ⟨?_,tMm,rfl⟩;(repeat' first|exact fp|refine aN ?_ ?_);all_goals exact congrArg (fun R=>bcv s R 5 (.slice 17 1 0 ((i+1)+1) c5)) (RMp_next (s:=s) (i:=(i+1)))
  ·have hin:s.n=i+1:=by
    have:=of_decide_eq_false hc;omega
   (repeat' first|exact aq|refine aN ?_ ?_|exact tU);all_goals try exact dd
   refine(t140' s (s.RMp (i+1) 0) cap hin.symm hn5 hok.fr).use [0,1,2,5,13,14] ?_ (fPp) rfl;(repeat' first|exact aq|refine aN ?_ ?_|exact tU);all_goals try exact dd
   refine⟨.ret (.ptr 12 0),HZ s b m pl++[some (.cells (bcv s s.RM 5 (.slice 13 1 0 (i+1) cap))),some (.arr 1 (i+1) cap (rowN (srtF s.fr s.n)))],hK _ _ ⟨rfl,Or.inr ⟨by omega,cap,by omega,hc3,by rw[hin]⟩⟩,?_⟩;refine ent_tau [0,1,2,3,4,5,6,7,8,9,10,11,13,14] ⟨?_,tMm,rfl⟩;(repeat' first|exact fp|refine aN ?_ ?_);exact congrArg (fun R=>bcv s R 5 (.slice 14 1 0 (i+1) cap)) (show s.RMp (i+1) 0=s.RM from hin▸RMp_all s)
end Go.Proofs.YthnhlkflkidemaaGreatDoor
