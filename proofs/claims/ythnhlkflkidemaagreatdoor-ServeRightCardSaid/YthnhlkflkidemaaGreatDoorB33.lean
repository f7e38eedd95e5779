/-
  Parts: HoP6a, HoP7, HoP8, HoPe, HoPg, HoPh, HoPi, HoPd.
-/
import Derived.Test.YthnhlkflkidemaaGreatDoorB32
set_option linter.unusedVariables false
set_option linter.unusedSimpArgs false
/-
 Contracts: horses are opened, with 0 captured.
-/
namespace Go.Proofs.YthnhlkflkidemaaGreatDoor
open Go Go.Sy Kuhn
set_option maxRecDepth 100000
set_option maxHeartbeats 4000000
attribute [local irreducible] CallP CodeP Ent YieldP
attribute [local irreducible] HD.ch maskO
theorem h47_0(h:HD)(f:Nat)(hf:f=114∨f=121)(b:Bool)
  (his:h.Valid→CallP Tryz.prog f ([HD.A h]++[]) (HD.H h) (Ret (.bool b) (HD.H h))):
  CallP Tryz.prog 113 [HD.A h,.fn (.func f) [] []] (HD.H h) (K47 h b (HD.H h)):=by
 refine callK (E:=E) E_ok Tryz.func113 rfl ?_
 refine aN ?_ ?_
 ·simp[AllP,under,gB,wB,inR_iffH,IntKind.bits]
 refine(h62 _ _ _).use [] ?_ (qZ0) rfl
 refine aN ?_ ?_
 ·(repeat' (first|exact tU|exact fun _=>rfl|exact rfl|refine aN ?_ ?_))
  all_goals exact qM0
 refine mustH (fun hb=>?_) (fun hb=>?_)
 ·have hb':(0≤h.pace∧h.pace≤3)∧h.n≤7:=by
   simp[inBH,gB,wB]at hb
   omega
  obtain⟨hP,hN⟩:=hb'
  (repeat' (first|exact tU|exact fun _=>rfl|exact rfl|refine aN ?_ ?_))
  all_goals first|exact qM0|skip
  refine loopP E_ok [1,2,4,19,20] (fun i:Nat=>[(21,.int .i64 i)]) (fun _ H=>H) (fun i=>i≤h.n∧ ∀j,j<i→h.okMv j) (fun i=>h.n-i) 0 ⟨Nat.zero_le _,fun j h=>by omega⟩ ?_ ?_
  ·exact ent_tau [0,1,2] ⟨qZ0,qZ2,rfl⟩
  rintro i ⟨hi,hall⟩
  have ei:=z1 i
  refine And.intro ?_ (And.intro (fun hlt=>?_) (fun hlt=>?_))
  ·simp[AllP,under,gB,wB,inR_iffH,IntKind.bits]
  ·have hlt':i<h.n:=by simpa using hlt
   obtain⟨b1,hb1⟩: ∃b1,inBH (h.at' i) 0 200=b1:=⟨_,rfl⟩
   obtain⟨b2,hb2⟩: ∃b2,inBH (h.pl i) 0 30=b2:=⟨_,rfl⟩
   have c1:CallP Tryz.prog 176 [.int .i64 (h.at' (0+((i:Nat):Int).toNat)),.int .i64 0,.int .i64 200] [] (Ret (.bool b1) []):=by
    rw[←hb1,ei]
    exact h62 _ _ _
   have c2:CallP Tryz.prog 176 [.int .i64 (h.pl (0+((i:Nat):Int).toNat)),.int .i64 0,.int .i64 30] [] (Ret (.bool b2) []):=by
    rw[←hb2,ei]
    exact h62 _ _ _
   (repeat' (first|exact tU|exact fun _=>rfl|exact rfl|refine aN ?_ ?_))
   all_goals first|exact qM0|skip
   refine c1.use [] ?_ trivial rfl
   cases b1 with
   |false=>
    refine And.intro ?_ (And.intro (fun hg=>absurd hg (by decide)) (fun hg=>?_))
    ·(repeat' (first|exact tU|exact fun _=>rfl|exact rfl|refine aN ?_ ?_))
     all_goals exact qM0
    (repeat' (first|exact tU|exact fun _=>rfl|exact rfl|refine aN ?_ ?_))
    all_goals first|exact qM0|skip
    refine mustH (fun hb=>?_) (fun hb=>?_)
    ·simp at hb
    ·refine And.intro ?_ (And.intro ?_ ⟨_,_,.inr (.inl ⟨fun hv=>?_,rfl,rfl⟩),?_⟩)
     ·(repeat' (first|exact tU|exact fun _=>rfl|exact rfl|refine aN ?_ ?_))
     ·(repeat' (first|exact tU|exact fun _=>rfl|exact rfl|refine aN ?_ ?_))
     ·have hm:=(hv.2.2 i hlt').1
      simp[inBH]at hb1
      omega
     ·exact ent_tau [0] ⟨qZ0,qZ2,rfl⟩
   |true=>
    refine And.intro ?_ (And.intro (fun hg=>?_) (fun hg=>absurd hg (by decide)))
    ·(repeat' (first|exact tU|exact fun _=>rfl|exact rfl|refine aN ?_ ?_))
     all_goals exact qM0
    refine c2.use [] ?_ trivial rfl
    (repeat' (first|exact tU|exact fun _=>rfl|exact rfl|refine aN ?_ ?_))
    all_goals first|exact qM0|exact u0 (fun hh=>hh)|skip
    have e1:0≤h.at' i∧h.at' i≤200:=inB_iffH.1 hb1
    refine mustH (fun hb=>?_) (fun hb=>?_)
    ·have hok:h.okMv i:=by
      cases b2 with
      |false=>simp at hb
      |true=>
       have e2:=inB_iffH.1 hb2
       simp[ei]at hb
       exact⟨e1,e2,by omega⟩
     (repeat' (first|exact tU|exact fun _=>rfl|exact rfl|refine aN ?_ ?_))
     all_goals first|exact qM0|skip
     refine⟨i+1,⟨hlt',fun j hj=>?_⟩,by omega,?_⟩
     ·rcases Nat.lt_or_ge j i with hji|hji
      ·exact hall j hji
      ·have:j=i:=by omega
       subst this
       exact hok
     ·exact ent_tau [0,1,2] ⟨qZ0,qZ2,rfl⟩
    ·refine And.intro ?_ (And.intro ?_ ⟨_,_,.inr (.inl ⟨fun hv=>?_,rfl,rfl⟩),?_⟩)
     ·(repeat' (first|exact tU|exact fun _=>rfl|exact rfl|refine aN ?_ ?_))
     ·(repeat' (first|exact tU|exact fun _=>rfl|exact rfl|refine aN ?_ ?_))
     ·have hm:=hv.2.2 i hlt'
      unfold HD.okMv at hm
      have e2:b2=true:=by rw[←hb2];exact inB_iffH.2 hm.2.1
      rw[e2]at hb
      simp[ei]at hb
      omega
     ·exact ent_tau [0] ⟨qZ0,qZ2,rfl⟩
  ·have hiM:i=h.n:=by
    have: ¬(i<h.n):=by simpa using hlt
    omega
   subst hiM
   have hv:h.Valid:=⟨hP,hN,hall⟩
   rcases hf with rfl|rfl
   all_goals(repeat' (first|exact tU|exact fun _=>rfl|exact rfl|refine aN ?_ ?_))
   all_goals first|exact qM0|skip
   all_goals refine(his hv).use [0] ?_ (qZ3) rfl
   all_goals(repeat' (first|exact tU|exact fun _=>rfl|exact rfl|refine aN ?_ ?_))
   all_goals first|exact qM0|skip
   all_goals refine mustH (fun hb=>?_) (fun hb=>?_)
   ·(repeat' (first|exact tU|exact fun _=>rfl|exact rfl|refine aN ?_ ?_))
    refine⟨_,_,.inl ⟨hv,hb,rfl,rfl⟩,?_⟩
    exact ent_tau [0] ⟨qZ0,qZ2,rfl⟩
   ·refine And.intro ?_ ⟨_,_,.inr (.inr ⟨hv,hb,rfl,rfl⟩),?_⟩
    ·(repeat' (first|exact tU|exact fun _=>rfl|exact rfl|refine aN ?_ ?_))
    ·exact ent_tau [0] ⟨qZ0,qZ2,rfl⟩
   ·(repeat' (first|exact tU|exact fun _=>rfl|exact rfl|refine aN ?_ ?_))
    refine⟨_,_,.inl ⟨hv,hb,rfl,rfl⟩,?_⟩
    exact ent_tau [0] ⟨qZ0,qZ2,rfl⟩
   ·refine And.intro ?_ ⟨_,_,.inr (.inr ⟨hv,hb,rfl,rfl⟩),?_⟩
    ·(repeat' (first|exact tU|exact fun _=>rfl|exact rfl|refine aN ?_ ?_))
    ·exact ent_tau [0] ⟨qZ0,qZ2,rfl⟩
 ·refine And.intro ?_ ⟨_,_,.inr (.inl ⟨fun hv=>?_,rfl,rfl⟩),?_⟩
  ·(repeat' (first|exact tU|exact fun _=>rfl|exact rfl|refine aN ?_ ?_))
  ·have h1:=hv.1
   have h2:=hv.2.1
   simp[inBH]at hb
   omega
  ·exact ent_tau [0] ⟨qZ0,qZ2,rfl⟩
theorem h71(h:HD):CallP Tryz.prog 121 [HD.A h] (HD.H h) (Ret (.bool true) (HD.H h)):=by
 refine callR (E:=E) E_ok Tryz.func121 rfl ?_;(repeat' (first|exact tU|exact fun _=>rfl|exact rfl|refine aN ?_ ?_));exact ent_tau [0] ⟨qZ0,qZ2,rfl⟩
/-! ### Plans -/
def bad(p:Nat→Int):Nat→Bool
 |0=>false
 |n+1=>bad p n||!inBH (p n) 0 6
def pok(h:HD)(pl:PD):Bool:=decide (pl.n=h.n)&&!bad pl.p pl.n
noncomputable def rest46:Code:=match Tryz.f112.body with
 |some (.seq _ r)=>r
 |_=> .skip
theorem isrec46:IsRec2 Tryz.f112 5 2 rest46:=⟨_,_,_,_,_,_,_,rfl,by decide,by decide,rfl⟩
open Classical in
noncomputable def HD.fol(h:HD)(a b:Int):Int×Int:=
 if h.Valid then(if inBH a 0 (h.n-1)=true∧inBH b 0 (h.n-1)=true then(if h.can true a.toNat b.toNat=true then 2 else if h.can false a.toNat b.toNat=true then 1 else 0,0)else(0,2))else(0,1)
theorem h97(a:Int):CallP Tryz.prog 217 [.int .i64 a] [] (Ret (.bool false) []):=by
 refine callR (E:=E) E_ok Tryz.func217 rfl ?_;(repeat' (first|exact tU|exact fun _=>rfl|exact rfl|refine aN ?_ ?_));refine ent_tau [] ⟨qZ0,⟨rfl,?_,trivial⟩,rfl⟩;exact congrArg SV.bool (by simp)
def cmpI(a b:Int):Int:=if a<b then-1 else if a>b then 1 else 0
theorem h89(a b:Int):CallP Tryz.prog 186 [.int .i64 a,.int .i64 b] [] (Ret (.int .i64 (cmpI a b)) []):=by
 obtain⟨r,hr⟩: ∃r,cmpI a b=r:=⟨_,rfl⟩;rw[hr];refine callR (E:=E) E_ok Tryz.func186 rfl ?_;(repeat' (first|exact tU|exact fun _=>rfl|exact rfl|refine aN ?_ ?_));refine(h97 a).use [] ?_ (qZ0) rfl;(repeat' (first|exact tU|exact fun _=>rfl|exact rfl|refine aN ?_ ?_));refine(h97 b).use [] ?_ (qZ0) rfl;(repeat' (first|exact tU|exact fun _=>rfl|exact rfl|refine aN ?_ ?_));all_goals first|exact qM0|skip
 intro _;(repeat' (first|exact tU|exact fun _=>rfl|exact rfl|refine aN ?_ ?_));all_goals first|exact qM0|skip
 intro _;(repeat' (first|exact tU|exact fun _=>rfl|exact rfl|refine aN ?_ ?_));all_goals first|exact qM0|skip
 ·intro hx;have h1:=of_decide_eq_true hx;unfold cmpI at hr;rw[if_pos h1]at hr;subst hr;(repeat' (first|exact tU|exact fun _=>rfl|exact rfl|refine aN ?_ ?_));exact ent_tau [] ⟨qZ0,qZ2,rfl⟩
 ·intro hx;have h1:=of_decide_eq_false hx;unfold cmpI at hr;rw[if_neg h1]at hr;(repeat' (first|exact tU|exact fun _=>rfl|exact rfl|refine aN ?_ ?_));all_goals first|exact qM0|skip
  ·intro hx;rw[if_pos (of_decide_eq_true hx)]at hr;subst hr;(repeat' (first|exact tU|exact fun _=>rfl|exact rfl|refine aN ?_ ?_));exact ent_tau [] ⟨qZ0,qZ2,rfl⟩
  ·intro hx;rw[if_neg (of_decide_eq_false hx)]at hr;subst hr;(repeat' (first|exact tU|exact fun _=>rfl|exact rfl|refine aN ?_ ?_));exact ent_tau [] ⟨qZ0,qZ2,rfl⟩
theorem gget_gset(m:GL)(k v k':List Int):(gget (gset m k v) k').map (·.2)=if k'=k then some v else(gget m k').map (·.2):=by
 induction m with
 |nil=>
  simp only[gset,gget,List.nil_append];by_cases h:k'=k
  ·rw[if_pos h,if_pos h.symm];rfl
  ·rw[if_neg h,if_neg (fun e=>h e.symm)]
 |cons p m ih=>
  obtain⟨a,b⟩:=p;unfold gset at ih⊢;simp only[gget];by_cases h:a=k
  ·rw[if_pos h];simp only[List.set_cons_zero,gget];by_cases h2:k'=k
   ·rw[if_pos h2,if_pos h2.symm];rfl
   ·rw[if_neg h2,if_neg (fun e=>h2 e.symm),if_neg (fun e=>h2 (e.symm.trans h))]
  ·rw[if_neg h];cases hg:gget m k with
   |none=>
    rw[hg]at ih;simp only[List.cons_append,gget]at ih⊢;by_cases h2:a=k'
    ·rw[if_pos h2,if_pos h2,if_neg (fun e=>h (h2.trans e))]
    ·rw[if_neg h2,if_neg h2];cases h3:gget (m++[(k,v)]) k' with
     |none=>
      rw[h3]at ih;cases h4:gget m k' with
      |none=>rw[h4]at ih;simpa using ih
      |some q'=>rw[h4]at ih;simpa using ih
     |some q=>
      rw[h3]at ih;cases h4:gget m k' with
      |none=>rw[h4]at ih;simpa using ih
      |some q'=>rw[h4]at ih;simpa using ih
   |some q=>
    rw[hg]at ih;simp only[List.set_cons_succ,gget]at ih⊢;by_cases h2:a=k'
    ·rw[if_pos h2,if_pos h2,if_neg (fun e=>h (h2.trans e))]
    ·rw[if_neg h2,if_neg h2];cases h3:gget (m.set q.1 (k,v)) k' with
     |none=>
      rw[h3]at ih;cases h4:gget m k' with
      |none=>rw[h4]at ih;simpa using ih
      |some q'=>rw[h4]at ih;simpa using ih
     |some q2=>
      rw[h3]at ih;cases h4:gget m k' with
      |none=>rw[h4]at ih;simpa using ih
      |some q'=>rw[h4]at ih;simpa using ih
theorem gval_of{n:Nat}{m:GL}{k v:List Int}(h:(gget m k).map (·.2)=some v):gval n m k=v:=by
 unfold gval;cases hg:gget m k with
 |none=>rw[hg]at h;cases h
 |some q=>rw[hg]at h;exact Option.some.inj h
theorem ghas_of{m:GL}{k:List Int} :ghas m k=((gget m k).map (·.2)).isSome:=by
 unfold ghas;cases gget m k<;>rfl
def thH(h:HD)(s:Bool):Int→Nat→Nat→Int:=fun b i k=>h.there s b i k
def T59(h:HD)(pl:PD)(s:Bool):Nat→Int:=tmS h.at' pl.p (thH h s) (srtF h.at' h.n) h.n
def latF(h:HD)(pl:PD)(k:Nat):List SV:=[.int .i64 (T59 h pl false k-h.at' k),.int .i64 (T59 h pl true k-h.at' k)]
def LateIs(h:HD)(pl:PD)(v:SV)(H':SHeap):Prop:=
 (h.Valid∧pok h pl=true∧v= .tup [.slice 2 2 0 h.n h.n,.int .i64 0]∧H'=HD.H h++[some (.roa 1 pl.n (PD.F pl)),some (.arr 2 h.n h.n (latF h pl))])∨
 (¬h.Valid∧v= .tup [.snil,.int .i64 1]∧H'=HD.H h++[some (.roa 1 pl.n (PD.F pl))])∨
 (h.Valid∧pok h pl=false∧v= .tup [.snil,.int .i64 2]∧H'=HD.H h++[some (.roa 1 pl.n (PD.F pl))])
theorem okP{h:HD}{pl:PD}{v:SV}{H':SHeap}(hq:LateIs h pl v H')(hv:h.Valid)(hp:pok h pl=false):v= .tup [.snil,.int .i64 2]∧H'=HD.H h++[some (.roa 1 pl.n (PD.F pl))]:=by
 rcases hq with⟨_,q2,_⟩|⟨q1,_⟩|⟨_,_,q⟩
 ·rw[hp]at q2;cases q2
 ·exact absurd hv q1
 ·exact q
def lone(h:HD)(s:Bool)(S:Nat):Nat→Bool
 |0=>true
 |i+1=>lone h s S i&&!(S.testBit i&&!decide (sdiff S (2^i)&&&h.ch s i=0))
theorem lone_bad{h:HD}{s:Bool}{S i:Nat} : ∀{n:Nat},i<n→S.testBit i=true→ ¬(sdiff S (2^i)&&&h.ch s i=0)→lone h s S n=false
 |0,hi,_,_=>absurd hi (Nat.not_lt_zero _)
 |n+1,hi,h1,h2=>by
  simp only[lone];rcases Nat.lt_succ_iff_lt_or_eq.1 hi with c|rfl
  ·rw[lone_bad c h1 h2];rfl
  ·rw[h1,decide_eq_false h2];cases lone h s S i<;>rfl
theorem h74(h:HD)(hn:h.n≤7)(s:Bool)(S:Nat)(hS:S<128):CallP Tryz.prog 124 [.int .u64 S,.ptr 1 0,.ptr 2 0] (HD.H h++[some (.roc (bc h)),some (.roc (chI fun j=>(h.ch s j:Nat)))])
  (Ret (.bool (lone h s S h.n)) (HD.H h++[some (.roc (bc h)),some (.roc (chI fun j=>(h.ch s j:Nat)))])):=by
 obtain⟨r,hr⟩: ∃r,lone h s S h.n=r:=⟨_,rfl⟩;rw[hr];refine callR (E:=E) E_ok Tryz.func124 rfl ?_;(repeat' (first|exact tU|exact fun _=>rfl|exact rfl|refine aN ?_ ?_));all_goals first|exact qM0|skip
 refine loopP E_ok [0,1,2,9] (fun i:Nat=>[(10,.int .i64 i)]) (fun _ H=>H) (fun i=>i≤h.n∧lone h s S i=true) (fun i=>h.n-i) 0 ⟨Nat.zero_le _,rfl⟩ ?_ ?_
 ·exact ent_tau [0,1,2] ⟨qZ0,qZ2,rfl⟩
 rintro i ⟨hi,hl⟩;refine And.intro ?_ (And.intro (fun hc=>?_) (fun hc=>?_))
 ·(repeat' (first|exact tU|exact fun _=>rfl|exact rfl|refine aN ?_ ?_))
 ·have hlt:i<h.n:=by
   have:=of_decide_eq_true hc;omega
  have pk:=pow_int i;have p2:=pow_lt7 (k:=i) (by omega);have pk0:(0:Int)≤1*2^((i:Nat):Int).toNat:=by rw[pk];exact Int.natCast_nonneg _
  obtain⟨b1,hb1⟩: ∃b,S.testBit i=b:=⟨_,rfl⟩;have c1:CallP Tryz.prog 125 [.int .u64 S,.int .i64 i] [] (Ret (.bool b1) []):=by
   rw[←hb1];exact h51 S (Nat.lt_trans hS (by decide)) i ⟨by omega,by omega⟩
  have c75:CallP Tryz.prog 126 [.int .u64 S,.int .u64 (1*2^((i:Nat):Int).toNat)] [] (Ret (.int .u64 (sdiff S (2^i):Nat)) []):=by
   rw[pk];exact h75 S (2^i)
  have hsd:sdiff S (2^i)<2^64:=sdiff_lt (n:=64) (Nat.lt_trans hS (by decide));have hch:h.ch s i<2^64:=Nat.lt_trans (HD.ch_lt hn s i) (by decide);have hget:[((h.ch s 0:Nat):Int),(h.ch s 1:Nat),(h.ch s 2:Nat),(h.ch s 3:Nat),(h.ch s 4:Nat),(h.ch s 5:Nat),(h.ch s 6:Nat)].getD ((i:Nat):Int).toNat 0=(h.ch s i:Nat):=by
   rw[Int.toNat_natCast];exact get7 (fun j=>((h.ch s j:Nat):Int)) i (by omega)
  have hand:bitOp .and .u64 ((sdiff S (2^i):Nat):Int) ([((h.ch s 0:Nat):Int),(h.ch s 1:Nat),(h.ch s 2:Nat),(h.ch s 3:Nat),(h.ch s 4:Nat),(h.ch s 5:Nat),(h.ch s 6:Nat)].getD ((i:Nat):Int).toNat 0)=((sdiff S (2^i)&&&h.ch s i:Nat):Int):=by
   rw[hget];exact and_nat hsd hch
  have ls:lone h s S (i+1)=(lone h s S i&&!(S.testBit i&&!decide (sdiff S (2^i)&&&h.ch s i=0))):=rfl;refine And.intro trivial ?_;refine drawP E_ok [] pl124_4 (by kernel_rfl) ?_;refine And.intro (And.intro ?_ ?_) trivial
  ·(repeat' (first|exact tU|exact fun _=>rfl|exact rfl|refine aN ?_ ?_))
  refine c1.use [] ?_ trivial rfl;cases b1 with
  |true=>
   (repeat' (first|exact tU|exact fun _=>rfl|exact rfl|refine aN ?_ ?_));all_goals first|exact qM0|exact fun _=>pk0|(intro _;rw[pk];omega)|exact u1 (show((i:Nat):Int)<64 by omega)|exact u1 ⟨pk0,by rw[pk];omega⟩|skip
   intro hg;refine c75.use [] ?_ trivial rfl;(repeat' (first|exact tU|exact fun _=>rfl|exact rfl|refine aN ?_ ?_));all_goals first|exact qM0|exact fun _=>hg|exact fun _ _=>hg|skip
   ·intro hx;have hx2:(!decide (bitOp .and .u64 ((sdiff S (2^i):Nat):Int) ([((h.ch s 0:Nat):Int),(h.ch s 1:Nat),(h.ch s 2:Nat),(h.ch s 3:Nat),(h.ch s 4:Nat),(h.ch s 5:Nat),(h.ch s 6:Nat)].getD ((i:Nat):Int).toNat 0)=0))=true:=hx;rw[hand]at hx2;have hbad: ¬(sdiff S (2^i)&&&h.ch s i=0):=by
     intro e;rw[e]at hx2;simp at hx2
    rw[lone_bad hlt hb1 hbad]at hr;subst hr;(repeat' (first|exact tU|exact fun _=>rfl|exact rfl|refine aN ?_ ?_));all_goals first|exact qM0|skip
    exact ent_tau [0,1,2] ⟨qZ0,qZ2,rfl⟩
   ·intro hx;have hx2:(!decide (bitOp .and .u64 ((sdiff S (2^i):Nat):Int) ([((h.ch s 0:Nat):Int),(h.ch s 1:Nat),(h.ch s 2:Nat),(h.ch s 3:Nat),(h.ch s 4:Nat),(h.ch s 5:Nat),(h.ch s 6:Nat)].getD ((i:Nat):Int).toNat 0)=0))=false:=hx;rw[hand]at hx2;have hgood:sdiff S (2^i)&&&h.ch s i=0:=by
     have:decide (((sdiff S (2^i)&&&h.ch s i:Nat):Int)=0)=true:=by
      cases c:decide (((sdiff S (2^i)&&&h.ch s i:Nat):Int)=0)with
      |true=>rfl
      |false=>
       rw[c]at hx2;cases hx2
     have:=of_decide_eq_true this;omega
    (repeat' (first|exact tU|exact fun _=>rfl|exact rfl|refine aN ?_ ?_));all_goals first|exact qM0|skip
    refine⟨i+1,⟨hlt,by rw[ls,hl,decide_eq_true hgood,hb1];rfl⟩,by omega,?_⟩;exact ent_tau [0,1,2] ⟨qZ0,qZ2,rfl⟩
  |false=>
   (repeat' (first|exact tU|exact fun _=>rfl|exact rfl|refine aN ?_ ?_));all_goals first|exact qM0|skip
   intro _;(repeat' (first|exact tU|exact fun _=>rfl|exact rfl|refine aN ?_ ?_));all_goals first|exact qM0|skip
   all_goals first|exact fun hx=>(Bool.false_ne_true hx).elim|skip
   intro _;(repeat' (first|exact tU|exact fun _=>rfl|exact rfl|refine aN ?_ ?_));all_goals first|exact qM0|skip
   refine⟨i+1,⟨hlt,by rw[ls,hl,hb1];rfl⟩,by omega,?_⟩;exact ent_tau [0,1,2] ⟨qZ0,qZ2,rfl⟩
 ·have e:i=h.n:=by
   have:=of_decide_eq_false hc;omega
  subst e;rw[hl]at hr;subst hr;(repeat' (first|exact tU|exact fun _=>rfl|exact rfl|refine aN ?_ ?_));exact ent_tau [0,1,2] ⟨qZ0,qZ2,rfl⟩
end Go.Proofs.YthnhlkflkidemaaGreatDoor
