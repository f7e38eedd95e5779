/-
  Parts: V23, V26, V25.
-/
import Derived.Test.YthnhlkflkidemaaGreatDoorB28
set_option linter.unusedVariables false
set_option linter.unusedSimpArgs false
/-
 A serve is opened. (--fast)
-/
namespace Go.Proofs.YthnhlkflkidemaaGreatDoor
open Go Go.Sy Srv Kuhn
set_option maxRecDepth 100000
set_option maxHeartbeats 4000000
attribute [local irreducible] CallP CodeP Ent YieldP
set_option maxHeartbeats 16000000
noncomputable def K62(s:SD)(v:Bool)(b:Int)(m:Nat)(pl:Nat→Int):CE→SHeap→Prop:=fun ce h'=>
 (ce= .panic (.iface 196 (.int .i64 1))∧ ¬s.Valid∧h'=HZ s b m pl)∨(ce= .panic (.iface 196 (.int .i64 2))∧s.Valid∧v=false∧h'=HZ s b m pl)∨
 (ce= .panic (.iface 196 (.int .i64 10))∧s.Valid∧v=true∧s.t.all=[]∧h'=HZ s b m pl)∨(s.Valid∧v=true∧s.t.all≠[]∧K62ok s b m pl ce h')
noncomputable def HZk(s:SD)(b:Int)(m:Nat)(pl:Nat→Int)(y8 y9 y11:SObj):SHeap:=[some (.roa 3 s.t.nM (row3 s.t.mi s.t.mlo s.t.mhi)),some (.roa 2 s.t.nS (row2 s.t.slo s.t.shi)),some (.roa 4 s.t.nL (row4 s.t.lp s.t.lm s.t.llo s.t.lhi)),
 some (.glob 1 [.int .i64 0,.int .i64 1,.int .i64 3,.int .i64 6,.int .i64 9,.int .i64 11,.int .i64 12]),some db,some (.roa 5 s.n s.F),some (.roa 1 0 (rowN id)),some (.roc [.int .i64 b]),some y8,some y9,some (.roa 1 m (rowI pl)),some y11]
theorem seg62b(s:SD)(b:Int)(m:Nat)(pl:Nat→Int)(hv:s.Valid):CodeP Tryz.prog none 12 (sufC Tryz.f62 6) ⟨tm62,HZ s b m pl++[some (.cells (svd s 5))],[]⟩ (KRetK E Tryz.f62 12 (K62 s true b m pl)):=by
 have hpl:s.t.isPl 0:=by
  have:=hv.1.2.1;unfold TD.isPl;omega
 have he:s.t.sandT 0=⟨(s.t.sandT 0).v,if s.t.all=[]then 10 else 0⟩:=by
  unfold TD.sandT;rw[if_neg (fun h=>h hv.1),if_neg (fun h=>h hpl)];split<;>rfl
 have c31:=u31 s.t 0;generalize s.t.sandT 0=r at he c31;obtain⟨rv,re⟩:=r;have he2:re=if s.t.all=[]then 10 else 0:=by injection he
 subst he2;refine codeP_XK E_ok 2 ?_;(repeat' first|exact aq|refine aN ?_ ?_|exact tU);refine CallP.frameH c31 [0,1,2,3,4] (fPp) rfl ?_;rintro ce h' ⟨rfl,rfl⟩;refine⟨rfl,?_⟩;by_cases ha:s.t.all=[]
 ·rw[if_pos ha];(repeat' first|exact aq|refine aN ?_ ?_|exact tU);all_goals try exact dd
  refine mustS (fun h=>?_) (fun _=>?_)
  ·exact absurd (show decide ((10:Int)=0)=true from h) (by decide)
  all_goals(repeat' first|exact aq|refine aN ?_ ?_|exact tU)
  all_goals try exact dd
  refine⟨.panic (.iface 196 (.int .i64 10)),HZ s b m pl,Or.inr (Or.inr (Or.inl ⟨rfl,hv,rfl,ha,rfl⟩)),?_⟩;exact ent_tau [0,1,2,3,4,5,6,7,8,9,10,11] ⟨fPp,tMm,rfl⟩
 ·rw[if_neg ha];(repeat' first|exact aq|refine aN ?_ ?_|exact tU);all_goals try exact dd
  refine mustS (fun _=>?_) (fun h=>?_);rotate_left
  ·exact absurd (show decide ((0:Int)=0)=false from h) (by decide)
  all_goals(repeat' first|exact aq|refine aN ?_ ?_|exact tU)
  all_goals try exact dd
  refine CodeP.part (seg62c s b m pl hv ha (K:=K62 s true b m pl) (fun ce h' hk=>Or.inr (Or.inr (Or.inr ⟨hv,rfl,ha,hk⟩)))) ?_;exact ent_tau [0,1,2,3,4,5,6,7,8,9,10,11,12] ⟨fPp,tMm,rfl⟩
theorem bif6{a b c d e f:Bool} :(bif bif bif bif bif a then b else false then c else false then d else false then e else false then f else false)=(a&&(b&&(c&&(d&&(e&&f))))):=by
 cases a<;>cases b<;>cases c<;>cases d<;>cases e<;>rfl
theorem bif8{a b c d e f g h:Bool} :(bif bif bif bif bif bif bif a then b else false then c else false then d else false then e else false then f else false then g else false then h else false)=(a&&(b&&(c&&(d&&(e&&(f&&(g&&h))))))):=by
 cases a<;>cases b<;>cases c<;>cases d<;>cases e<;>cases f<;>cases g<;>rfl
theorem hE2{t:TD}(hv:t.Valid)(m:Int):(!decide ((t.height m).e=2))=true↔t.isMin m:=by
 unfold TD.height;rw[if_neg (fun h=>h hv)];by_cases h:t.isMin m
 ·rw[if_neg (fun g=>g h)];split<;>simp[h]
 ·rw[if_pos h];simp[h]
theorem not1{s:SD}{e:Int}(he:(s.t.Valid∧e=2)∨(¬s.t.Valid∧e=1)){x:Bool}(hx:x=false→ ¬(0≤s.pace∧s.pace≤3))
  (h:(decide (e=2)&&(decide (1≤s.slo)&&(decide (s.slo≤s.shi)&&(decide (s.shi≤6)&&(x&&decide ((s.n:Int)≤5))))))=false): ¬s.Valid:=by
 rintro⟨v1,⟨v2,v3,v4⟩,v5,v6,v7⟩;rcases he with⟨_,rfl⟩|⟨h0,_⟩
 ·cases x with
  |false=>exact hx rfl v5
  |true=>
   rw[decide_eq_true v2,decide_eq_true v3,decide_eq_true v4,decide_eq_true (show(s.n:Int)≤5 by omega)]at h;exact absurd h (by decide)
 ·exact h0 v1
theorem okB_iff{s:SD}(hv:s.t.Valid)(i:Nat):(inB (s.hut i) 0 3&&((!decide ((s.t.height (s.fr i)).e=2))&&((!decide ((s.t.height (s.to i)).e=2))&&(decide (s.fr i<s.to i)&&(decide (s.to i≤200)&&(decide (0≤s.le i)&&(decide (s.le i≤s.mo i)&&decide (s.mo i≤60))))))))=true↔s.okB i:=by
 rw[Bool.and_eq_true,Bool.and_eq_true,Bool.and_eq_true,hE2 hv,hE2 hv];unfold inB SD.okB;simp only[Bool.and_eq_true,decide_eq_true_iff];constructor
 ·rintro⟨a,b,c,d,e,f,g,h⟩;exact⟨a,⟨b,c⟩,⟨d,e⟩,f,g,h⟩
 ·rintro⟨a,⟨b,c⟩,⟨d,e⟩,f,g,h⟩;exact⟨a,b,c,d,e,f,g,h⟩
theorem t134(s:SD)(n:Int):CallP Tryz.prog 134 [.int .i64 n,.ptr 6 0] (HM s) (Ret (.bool (!decide ((s.t.height n).e=2))) (HM s)):=by
 have c22:=u22 s.t n;refine callR (E:=E) E_ok Tryz.func134 rfl ?_;(repeat' first|exact aq|refine aN ?_ ?_|exact tU);refine CallP.frameH c22 [0,1,2,3,4] (fPp) rfl ?_;rintro ce h' ⟨rfl,rfl⟩;refine⟨rfl,?_⟩;(repeat' first|exact aq|refine aN ?_ ?_|exact tU);exact ent_tau [0,1,2,3,4,5,6] ⟨fPp,tMm,rfl⟩
theorem t62a(s:SD)(b:Int)(m:Nat)(pl:Nat→Int):CallP Tryz.prog 62 [SA s,.fn (.func 72) [] []] (HZ s b m pl) (K62 s true b m pl):=by
 have c31:=u31 s.t (-1);have he:(s.t.Valid∧(s.t.sandT (-1)).e=2)∨(¬s.t.Valid∧(s.t.sandT (-1)).e=1):=by
  unfold TD.sandT TD.isPl;by_cases h:s.t.Valid
  ·rw[if_neg (fun g=>g h),if_pos (by omega)];exact Or.inl ⟨h,rfl⟩
  ·rw[if_pos h];exact Or.inr ⟨h,rfl⟩
 obtain⟨r,hr⟩: ∃r,s.t.sandT (-1)=r:=⟨_,rfl⟩;rw[hr]at he c31;refine callKK (E:=E) E_ok 6 Tryz.func62 rfl ?_;(repeat' first|exact aq|refine aN ?_ ?_|exact tU);refine CallP.frameH c31 [0,1,2,3,4] (fPp) rfl ?_;rintro ce h' ⟨rfl,rfl⟩;refine⟨rfl,?_⟩;(repeat' first|exact aq|refine aN ?_ ?_|exact tU);all_goals try exact dd
 rotate_left
 ·intro h1;(repeat' first|exact aq|refine aN ?_ ?_|exact tU);all_goals try exact dd
  all_goals first|exact(fun h=>tFx ((congrArg (fun b=>gB none (wB true b)) h).symm.trans h1))|skip
  refine mustS (fun h2=>?_) (fun h2=>?_)
  ·rw[bif6]at h2;simp at h2
  all_goals(repeat' first|exact aq|refine aN ?_ ?_|exact tU)
  all_goals try exact dd
  refine⟨.panic (.iface 196 (.int .i64 1)),HZ s b m pl,Or.inl ⟨rfl,?_,rfl⟩,?_⟩
  ·intro hv;have h1:(bif bif bif decide (r.e=2)then decide (1≤s.slo)else false then decide (s.slo≤s.shi)else false then decide (s.shi≤6)else false)=false:=h1;obtain⟨v1,⟨v2,v3,v4⟩,_⟩:=hv;rcases he with⟨_,e1⟩|⟨h0,_⟩
   ·rw[e1,decide_eq_true v2,decide_eq_true v3,decide_eq_true v4]at h1;exact absurd h1 (by decide)
   ·exact h0 v1
  exact ent_tau [0,1,2,3,4,5,6,7,8,9,10,11] ⟨fPp,tMm,rfl⟩
 intro h1;refine(t64 _ _ _).use [] ?_ trivial rfl;(repeat' first|exact aq|refine aN ?_ ?_|exact tU);all_goals try exact dd
 refine mustS (fun h2=>?_) (fun h2=>?_);rotate_left;all_goals rw[bif6]at h2
 ·all_goals(repeat' first|exact aq|refine aN ?_ ?_|exact tU)
  all_goals try exact dd
  refine⟨.panic (.iface 196 (.int .i64 1)),HZ s b m pl,Or.inl ⟨rfl,not1 he (fun hx hp=>?_) h2,rfl⟩,?_⟩
  ·unfold inB at hx;simp only[Bool.and_eq_false_iff,decide_eq_false_iff_not]at hx;omega
  exact ent_tau [0,1,2,3,4,5,6,7,8,9,10,11] ⟨fPp,tMm,rfl⟩
 all_goals(repeat' first|exact aq|refine aN ?_ ?_|exact tU)
 all_goals try exact dd
 simp only[Bool.and_eq_true,decide_eq_true_iff]at h2;obtain⟨e2,hs1,hs2,hs3,hpc,hn5⟩:=h2;have hvt:s.t.Valid:=he.elim (fun h=>h.1) (fun h=>by omega);have hpc:0≤s.pace∧s.pace≤3:=by
  unfold inB at hpc;simp only[Bool.and_eq_true,decide_eq_true_iff]at hpc;omega
 refine loopP E_ok [1,2,5,60,61] (fun i:Nat=>[(62,.int .i64 (i:Nat))]) (fun _ _=>HZ s b m pl++[some (.cells (svd s 5))]) (fun i=>i≤s.n∧ ∀j,j<i→s.okB j) (fun i=>s.n-i) 0 ⟨Nat.zero_le _,fun j hj=>absurd hj (Nat.not_lt_zero j)⟩ ?_ ?_
 ·exact ent_tau [0,1,2,3,4,5,6,7,8,9,10,11,12] ⟨fPp,tMm,rfl⟩
 rintro i ⟨hi,hok⟩;have ei:=z1 i;refine And.intro ?_ (And.intro (fun hc=>?_) (fun hc=>?_))
 ·(repeat' first|exact aq|refine aN ?_ ?_|exact tU)
 ·have hin:i<s.n:=by
   have:=of_decide_eq_true hc;omega
  (repeat' first|exact aq|refine aN ?_ ?_|exact tU);all_goals try exact dd
  refine(t64 _ _ _).use [] ?_ trivial rfl;(repeat' first|exact aq|refine aN ?_ ?_|exact tU);all_goals try exact dd
  ·intro h1;refine(t134 s _).use [0,1,2,3,4,5,12] ?_ (fPp) rfl;(repeat' first|exact aq|refine aN ?_ ?_|exact tU);all_goals try exact dd
   ·intro h3;refine(t134 s _).use [0,1,2,3,4,5,12] ?_ (fPp) rfl;(repeat' first|exact aq|refine aN ?_ ?_|exact tU);all_goals try exact dd
    refine mustS (fun h2=>?_) (fun h2=>?_);all_goals rw[bif8]at h2
    all_goals simp only[ei]at h2
    ·have hb:=(okB_iff hvt i).1 h2;(repeat' first|exact aq|refine aN ?_ ?_|exact tU);all_goals try exact dd
     refine⟨i+1,⟨hin,fun j hj=>?_⟩,by omega,?_⟩
     ·rcases Nat.lt_succ_iff_lt_or_eq.1 hj with h|rfl
      ·exact hok j h
      ·exact hb
     exact ent_tau [0,1,2,3,4,5,6,7,8,9,10,11,12] ⟨fPp,tMm,rfl⟩
    ·(repeat' first|exact aq|refine aN ?_ ?_|exact tU);all_goals try exact dd
     refine⟨.panic (.iface 196 (.int .i64 1)),HZ s b m pl,Or.inl ⟨rfl,fun hv=>?_,rfl⟩,?_⟩
     ·rw[(okB_iff hvt i).2 (hv.2.2.2.2 i hin)]at h2;exact Bool.noConfusion h2
     exact ent_tau [0,1,2,3,4,5,6,7,8,9,10,11] ⟨fPp,tMm,rfl⟩
   ·intro h3;(repeat' first|exact aq|refine aN ?_ ?_|exact tU);all_goals try exact dd
    all_goals first|exact(fun h=>tFx ((congrArg (fun b=>gB none (wB true b)) h).symm.trans h3))|skip
    refine mustS (fun h2=>?_) (fun h2=>?_)
    ·rw[bif8]at h2;simp at h2
    all_goals(repeat' first|exact aq|refine aN ?_ ?_|exact tU)
    all_goals try exact dd
    refine⟨.panic (.iface 196 (.int .i64 1)),HZ s b m pl,Or.inl ⟨rfl,fun hv=>?_,rfl⟩,?_⟩
    ·have h4:=(okB_iff hvt i).2 (hv.2.2.2.2 i hin);rw[Bool.and_eq_true,Bool.and_eq_true]at h4;have h3:(bif inB (s.hut (0+((i:Nat):Int).toNat)) 0 3 then !decide ((s.t.height (s.fr (0+((i:Nat):Int).toNat))).e=2)else false)=false:=h3;rw[ei,h4.1,h4.2.1]at h3;exact Bool.noConfusion h3
    exact ent_tau [0,1,2,3,4,5,6,7,8,9,10,11] ⟨fPp,tMm,rfl⟩
  ·intro h1;(repeat' first|exact aq|refine aN ?_ ?_|exact tU);all_goals try exact dd
   all_goals first|exact(fun h=>tFx ((congrArg (fun b=>gB none (wB true b)) h).symm.trans h1))|skip
   ·intro h3;have h3:(bif inB (s.hut (0+((i:Nat):Int).toNat)) 0 3 then false else false)=true:=h3;simp at h3
   ·intro h3;(repeat' first|exact aq|refine aN ?_ ?_|exact tU);all_goals try exact dd
    all_goals first|exact(fun h=>by simp at h)|skip
    refine mustS (fun h2=>?_) (fun h2=>?_)
    ·rw[bif8]at h2;simp at h2
    all_goals(repeat' first|exact aq|refine aN ?_ ?_|exact tU)
    all_goals try exact dd
    refine⟨.panic (.iface 196 (.int .i64 1)),HZ s b m pl,Or.inl ⟨rfl,fun hv=>?_,rfl⟩,?_⟩
    ·have h4:=(okB_iff hvt i).2 (hv.2.2.2.2 i hin);rw[Bool.and_eq_true,Bool.and_eq_true]at h4;have h1:inB (s.hut (0+((i:Nat):Int).toNat)) 0 3=false:=h1;rw[ei,h4.1]at h1;exact Bool.noConfusion h1
    exact ent_tau [0,1,2,3,4,5,6,7,8,9,10,11] ⟨fPp,tMm,rfl⟩
 ·have hin:i=s.n:=by
   have:=of_decide_eq_false hc;omega
  subst hin;have hv:s.Valid:=⟨hvt,⟨hs1,hs2,hs3⟩,hpc,by omega,hok⟩;(repeat' first|exact aq|refine aN ?_ ?_|exact tU);all_goals try exact dd
  refine t72.use [] ?_ trivial rfl;(repeat' first|exact aq|refine aN ?_ ?_|exact tU);all_goals try exact dd
  refine mustS (fun _=>?_) (fun h=>Bool.noConfusion h);(repeat' first|exact aq|refine aN ?_ ?_|exact tU);all_goals try exact dd
  refine CodeP.pre ?_ (seg62b s b m pl hv);exact ent_tau [0,1,2,3,4,5,6,7,8,9,10,11,12] ⟨fPp,tMm,rfl⟩
theorem t62r(s:SD)(b:Int)(m:Nat)(pl:Nat→Int):CallP Tryz.prog 62 [SA s,.fn (.func 63) [] [.ptr 7 0,.ptr 8 0]] (HZk s b m pl (.roc (svd s 5)) .dead .dead) (K62 s (inB b 0 ((s.n:Nat)-1)) b m pl):=by
 obtain⟨V,hV⟩: ∃V,(inB b 0 ((s.n:Nat)-1))=V:=⟨_,rfl⟩;rw[hV];have c31:=u31 s.t (-1);have he:(s.t.Valid∧(s.t.sandT (-1)).e=2)∨(¬s.t.Valid∧(s.t.sandT (-1)).e=1):=by
  unfold TD.sandT TD.isPl;by_cases h:s.t.Valid
  ·rw[if_neg (fun g=>g h),if_pos (by omega)];exact Or.inl ⟨h,rfl⟩
  ·rw[if_pos h];exact Or.inr ⟨h,rfl⟩
 obtain⟨r,hr⟩: ∃r,s.t.sandT (-1)=r:=⟨_,rfl⟩;rw[hr]at he c31;refine callKK (E:=E) E_ok 6 Tryz.func62 rfl ?_;(repeat' first|exact aq|refine aN ?_ ?_|exact tU);refine CallP.frameH c31 [0,1,2,3,4] (fPp) rfl ?_;rintro ce h' ⟨rfl,rfl⟩;refine⟨rfl,?_⟩;(repeat' first|exact aq|refine aN ?_ ?_|exact tU);all_goals try exact dd
 rotate_left
 ·intro h1;(repeat' first|exact aq|refine aN ?_ ?_|exact tU);all_goals try exact dd
  all_goals first|exact(fun h=>tFx ((congrArg (fun b=>gB none (wB true b)) h).symm.trans h1))|skip
  refine mustS (fun h2=>?_) (fun h2=>?_)
  ·rw[bif6]at h2;simp at h2
  all_goals(repeat' first|exact aq|refine aN ?_ ?_|exact tU)
  all_goals try exact dd
  refine⟨.panic (.iface 196 (.int .i64 1)),HZ s b m pl,Or.inl ⟨rfl,?_,rfl⟩,?_⟩
  ·intro hv;have h1:(bif bif bif decide (r.e=2)then decide (1≤s.slo)else false then decide (s.slo≤s.shi)else false then decide (s.shi≤6)else false)=false:=h1;obtain⟨v1,⟨v2,v3,v4⟩,_⟩:=hv;rcases he with⟨_,e1⟩|⟨h0,_⟩
   ·rw[e1,decide_eq_true v2,decide_eq_true v3,decide_eq_true v4]at h1;exact absurd h1 (by decide)
   ·exact h0 v1
  exact ent_tau [0,1,2,3,4,5,6,7,8,9,10,11] ⟨fPp,tMm,rfl⟩
 intro h1;refine(t64 _ _ _).use [] ?_ trivial rfl;(repeat' first|exact aq|refine aN ?_ ?_|exact tU);all_goals try exact dd
 refine mustS (fun h2=>?_) (fun h2=>?_);rotate_left;all_goals rw[bif6]at h2
 ·all_goals(repeat' first|exact aq|refine aN ?_ ?_|exact tU)
  all_goals try exact dd
  refine⟨.panic (.iface 196 (.int .i64 1)),HZ s b m pl,Or.inl ⟨rfl,not1 he (fun hx hp=>?_) h2,rfl⟩,?_⟩
  ·unfold inB at hx;simp only[Bool.and_eq_false_iff,decide_eq_false_iff_not]at hx;omega
  exact ent_tau [0,1,2,3,4,5,6,7,8,9,10,11] ⟨fPp,tMm,rfl⟩
 all_goals(repeat' first|exact aq|refine aN ?_ ?_|exact tU)
 all_goals try exact dd
 simp only[Bool.and_eq_true,decide_eq_true_iff]at h2;obtain⟨e2,hs1,hs2,hs3,hpc,hn5⟩:=h2;have hvt:s.t.Valid:=he.elim (fun h=>h.1) (fun h=>by omega);have hpc:0≤s.pace∧s.pace≤3:=by
  unfold inB at hpc;simp only[Bool.and_eq_true,decide_eq_true_iff]at hpc;omega
 refine loopP E_ok [1,2,5,60,61] (fun i:Nat=>[(62,.int .i64 (i:Nat))]) (fun _ _=>HZk s b m pl (.roc (svd s 5)) .dead .dead++[some (.cells (svd s 5))]) (fun i=>i≤s.n∧ ∀j,j<i→s.okB j) (fun i=>s.n-i) 0 ⟨Nat.zero_le _,fun j hj=>absurd hj (Nat.not_lt_zero j)⟩ ?_ ?_
 ·exact ent_tau [0,1,2,3,4,5,6,7,8,9,10,11,12] ⟨fPp,tMm,rfl⟩
 rintro i ⟨hi,hok⟩;have ei:=z1 i;refine And.intro ?_ (And.intro (fun hc=>?_) (fun hc=>?_))
 ·(repeat' first|exact aq|refine aN ?_ ?_|exact tU)
 ·have hin:i<s.n:=by
   have:=of_decide_eq_true hc;omega
  (repeat' first|exact aq|refine aN ?_ ?_|exact tU);all_goals try exact dd
  refine(t64 _ _ _).use [] ?_ trivial rfl;(repeat' first|exact aq|refine aN ?_ ?_|exact tU);all_goals try exact dd
  ·intro h1;refine(t134 s _).use [0,1,2,3,4,5,12] ?_ (fPp) rfl;(repeat' first|exact aq|refine aN ?_ ?_|exact tU);all_goals try exact dd
   ·intro h3;refine(t134 s _).use [0,1,2,3,4,5,12] ?_ (fPp) rfl;(repeat' first|exact aq|refine aN ?_ ?_|exact tU);all_goals try exact dd
    refine mustS (fun h2=>?_) (fun h2=>?_);all_goals rw[bif8]at h2
    all_goals simp only[ei]at h2
    ·have hb:=(okB_iff hvt i).1 h2;(repeat' first|exact aq|refine aN ?_ ?_|exact tU);all_goals try exact dd
     refine⟨i+1,⟨hin,fun j hj=>?_⟩,by omega,?_⟩
     ·rcases Nat.lt_succ_iff_lt_or_eq.1 hj with h|rfl
      ·exact hok j h
      ·exact hb
     exact ent_tau [0,1,2,3,4,5,6,7,8,9,10,11,12] ⟨fPp,tMm,rfl⟩
    ·(repeat' first|exact aq|refine aN ?_ ?_|exact tU);all_goals try exact dd
     refine⟨.panic (.iface 196 (.int .i64 1)),HZ s b m pl,Or.inl ⟨rfl,fun hv=>?_,rfl⟩,?_⟩
     ·rw[(okB_iff hvt i).2 (hv.2.2.2.2 i hin)]at h2;exact Bool.noConfusion h2
     exact ent_tau [0,1,2,3,4,5,6,7,8,9,10,11] ⟨fPp,tMm,rfl⟩
   ·intro h3;(repeat' first|exact aq|refine aN ?_ ?_|exact tU);all_goals try exact dd
    all_goals first|exact(fun h=>tFx ((congrArg (fun b=>gB none (wB true b)) h).symm.trans h3))|skip
    refine mustS (fun h2=>?_) (fun h2=>?_)
    ·rw[bif8]at h2;simp at h2
    all_goals(repeat' first|exact aq|refine aN ?_ ?_|exact tU)
    all_goals try exact dd
    refine⟨.panic (.iface 196 (.int .i64 1)),HZ s b m pl,Or.inl ⟨rfl,fun hv=>?_,rfl⟩,?_⟩
    ·have h4:=(okB_iff hvt i).2 (hv.2.2.2.2 i hin);rw[Bool.and_eq_true,Bool.and_eq_true]at h4;have h3:(bif inB (s.hut (0+((i:Nat):Int).toNat)) 0 3 then !decide ((s.t.height (s.fr (0+((i:Nat):Int).toNat))).e=2)else false)=false:=h3;rw[ei,h4.1,h4.2.1]at h3;exact Bool.noConfusion h3
    exact ent_tau [0,1,2,3,4,5,6,7,8,9,10,11] ⟨fPp,tMm,rfl⟩
  ·intro h1;(repeat' first|exact aq|refine aN ?_ ?_|exact tU);all_goals try exact dd
   all_goals first|exact(fun h=>tFx ((congrArg (fun b=>gB none (wB true b)) h).symm.trans h1))|skip
   ·intro h3;have h3:(bif inB (s.hut (0+((i:Nat):Int).toNat)) 0 3 then false else false)=true:=h3;simp at h3
   ·intro h3;(repeat' first|exact aq|refine aN ?_ ?_|exact tU);all_goals try exact dd
    all_goals first|exact(fun h=>by simp at h)|skip
    refine mustS (fun h2=>?_) (fun h2=>?_)
    ·rw[bif8]at h2;simp at h2
    all_goals(repeat' first|exact aq|refine aN ?_ ?_|exact tU)
    all_goals try exact dd
    refine⟨.panic (.iface 196 (.int .i64 1)),HZ s b m pl,Or.inl ⟨rfl,fun hv=>?_,rfl⟩,?_⟩
    ·have h4:=(okB_iff hvt i).2 (hv.2.2.2.2 i hin);rw[Bool.and_eq_true,Bool.and_eq_true]at h4;have h1:inB (s.hut (0+((i:Nat):Int).toNat)) 0 3=false:=h1;rw[ei,h4.1]at h1;exact Bool.noConfusion h1
    exact ent_tau [0,1,2,3,4,5,6,7,8,9,10,11] ⟨fPp,tMm,rfl⟩
 ·have hin:i=s.n:=by
   have:=of_decide_eq_false hc;omega
  subst hin;have hv:s.Valid:=⟨hvt,⟨hs1,hs2,hs3⟩,hpc,by omega,hok⟩;(repeat' first|exact aq|refine aN ?_ ?_|exact tU);all_goals try exact dd
  have cis:=t63 s b hv.2.2.2.1;rw[hV]at cis;refine cis.use [0,1,2,3,4,5,8,7] ?_ (fPp) rfl;(repeat' first|exact aq|refine aN ?_ ?_|exact tU);all_goals try exact dd
  refine mustS (fun h=>?_) (fun h=>?_)
  ·subst h;(repeat' first|exact aq|refine aN ?_ ?_|exact tU);all_goals try exact dd
   refine CodeP.pre ?_ (seg62b s b m pl hv);exact ent_tau [0,1,2,3,4,5,6,7,8,9,10,11,12] ⟨fPp,tMm,rfl⟩
  ·subst h;(repeat' first|exact aq|refine aN ?_ ?_|exact tU);all_goals try exact dd
   refine⟨.panic (.iface 196 (.int .i64 2)),HZ s b m pl,Or.inr (Or.inl ⟨rfl,hv,rfl,rfl⟩),?_⟩;exact ent_tau [0,1,2,3,4,5,6,7,8,9,10,11] ⟨fPp,tMm,rfl⟩
theorem t62p(s:SD)(b:Int)(m:Nat)(pl:Nat→Int)(bp:Bool)(cp:Nat)(hm:m≤9223372036854775807):CallP Tryz.prog 62 [SA s,.fn (.func 143) [] [.ptr 11 0,.ptr 8 0,.ptr 9 0]] (HZk s b m pl (.roc (svd s 5)) (.roc [.fn (.func 142) [] [.ptr 8 0]]) (.roc [.osl bp 10 1 m cp])) (K62 s (isPl s m pl) b m pl):=by
 obtain⟨V,hV⟩: ∃V,(isPl s m pl)=V:=⟨_,rfl⟩;rw[hV];have c31:=u31 s.t (-1);have he:(s.t.Valid∧(s.t.sandT (-1)).e=2)∨(¬s.t.Valid∧(s.t.sandT (-1)).e=1):=by
  unfold TD.sandT TD.isPl;by_cases h:s.t.Valid
  ·rw[if_neg (fun g=>g h),if_pos (by omega)];exact Or.inl ⟨h,rfl⟩
  ·rw[if_pos h];exact Or.inr ⟨h,rfl⟩
 obtain⟨r,hr⟩: ∃r,s.t.sandT (-1)=r:=⟨_,rfl⟩;rw[hr]at he c31;refine callKK (E:=E) E_ok 6 Tryz.func62 rfl ?_;(repeat' first|exact aq|refine aN ?_ ?_|exact tU);refine CallP.frameH c31 [0,1,2,3,4] (fPp) rfl ?_;rintro ce h' ⟨rfl,rfl⟩;refine⟨rfl,?_⟩;(repeat' first|exact aq|refine aN ?_ ?_|exact tU);all_goals try exact dd
 rotate_left
 ·intro h1;(repeat' first|exact aq|refine aN ?_ ?_|exact tU);all_goals try exact dd
  all_goals first|exact(fun h=>tFx ((congrArg (fun b=>gB none (wB true b)) h).symm.trans h1))|skip
  refine mustS (fun h2=>?_) (fun h2=>?_)
  ·rw[bif6]at h2;simp at h2
  all_goals(repeat' first|exact aq|refine aN ?_ ?_|exact tU)
  all_goals try exact dd
  refine⟨.panic (.iface 196 (.int .i64 1)),HZ s b m pl,Or.inl ⟨rfl,?_,rfl⟩,?_⟩
  ·intro hv;have h1:(bif bif bif decide (r.e=2)then decide (1≤s.slo)else false then decide (s.slo≤s.shi)else false then decide (s.shi≤6)else false)=false:=h1;obtain⟨v1,⟨v2,v3,v4⟩,_⟩:=hv;rcases he with⟨_,e1⟩|⟨h0,_⟩
   ·rw[e1,decide_eq_true v2,decide_eq_true v3,decide_eq_true v4]at h1;exact absurd h1 (by decide)
   ·exact h0 v1
  exact ent_tau [0,1,2,3,4,5,6,7,8,9,10,11] ⟨fPp,tMm,rfl⟩
 intro h1;refine(t64 _ _ _).use [] ?_ trivial rfl;(repeat' first|exact aq|refine aN ?_ ?_|exact tU);all_goals try exact dd
 refine mustS (fun h2=>?_) (fun h2=>?_);rotate_left;all_goals rw[bif6]at h2
 ·all_goals(repeat' first|exact aq|refine aN ?_ ?_|exact tU)
  all_goals try exact dd
  refine⟨.panic (.iface 196 (.int .i64 1)),HZ s b m pl,Or.inl ⟨rfl,not1 he (fun hx hp=>?_) h2,rfl⟩,?_⟩
  ·unfold inB at hx;simp only[Bool.and_eq_false_iff,decide_eq_false_iff_not]at hx;omega
  exact ent_tau [0,1,2,3,4,5,6,7,8,9,10,11] ⟨fPp,tMm,rfl⟩
 all_goals(repeat' first|exact aq|refine aN ?_ ?_|exact tU)
 all_goals try exact dd
 simp only[Bool.and_eq_true,decide_eq_true_iff]at h2;obtain⟨e2,hs1,hs2,hs3,hpc,hn5⟩:=h2;have hvt:s.t.Valid:=he.elim (fun h=>h.1) (fun h=>by omega);have hpc:0≤s.pace∧s.pace≤3:=by
  unfold inB at hpc;simp only[Bool.and_eq_true,decide_eq_true_iff]at hpc;omega
 refine loopP E_ok [1,2,5,60,61] (fun i:Nat=>[(62,.int .i64 (i:Nat))]) (fun _ _=>HZk s b m pl (.roc (svd s 5)) (.roc [.fn (.func 142) [] [.ptr 8 0]]) (.roc [.osl bp 10 1 m cp])++[some (.cells (svd s 5))]) (fun i=>i≤s.n∧ ∀j,j<i→s.okB j) (fun i=>s.n-i) 0 ⟨Nat.zero_le _,fun j hj=>absurd hj (Nat.not_lt_zero j)⟩ ?_ ?_
 ·exact ent_tau [0,1,2,3,4,5,6,7,8,9,10,11,12] ⟨fPp,tMm,rfl⟩
 rintro i ⟨hi,hok⟩;have ei:=z1 i;refine And.intro ?_ (And.intro (fun hc=>?_) (fun hc=>?_))
 ·(repeat' first|exact aq|refine aN ?_ ?_|exact tU)
 ·have hin:i<s.n:=by
   have:=of_decide_eq_true hc;omega
  (repeat' first|exact aq|refine aN ?_ ?_|exact tU);all_goals try exact dd
  refine(t64 _ _ _).use [] ?_ trivial rfl;(repeat' first|exact aq|refine aN ?_ ?_|exact tU);all_goals try exact dd
  ·intro h1;refine(t134 s _).use [0,1,2,3,4,5,12] ?_ (fPp) rfl;(repeat' first|exact aq|refine aN ?_ ?_|exact tU);all_goals try exact dd
   ·intro h3;refine(t134 s _).use [0,1,2,3,4,5,12] ?_ (fPp) rfl;(repeat' first|exact aq|refine aN ?_ ?_|exact tU);all_goals try exact dd
    refine mustS (fun h2=>?_) (fun h2=>?_);all_goals rw[bif8]at h2
    all_goals simp only[ei]at h2
    ·have hb:=(okB_iff hvt i).1 h2;(repeat' first|exact aq|refine aN ?_ ?_|exact tU);all_goals try exact dd
     refine⟨i+1,⟨hin,fun j hj=>?_⟩,by omega,?_⟩
     ·rcases Nat.lt_succ_iff_lt_or_eq.1 hj with h|rfl
      ·exact hok j h
      ·exact hb
     exact ent_tau [0,1,2,3,4,5,6,7,8,9,10,11,12] ⟨fPp,tMm,rfl⟩
    ·(repeat' first|exact aq|refine aN ?_ ?_|exact tU);all_goals try exact dd
     refine⟨.panic (.iface 196 (.int .i64 1)),HZ s b m pl,Or.inl ⟨rfl,fun hv=>?_,rfl⟩,?_⟩
     ·rw[(okB_iff hvt i).2 (hv.2.2.2.2 i hin)]at h2;exact Bool.noConfusion h2
     exact ent_tau [0,1,2,3,4,5,6,7,8,9,10,11] ⟨fPp,tMm,rfl⟩
   ·intro h3;(repeat' first|exact aq|refine aN ?_ ?_|exact tU);all_goals try exact dd
    all_goals first|exact(fun h=>tFx ((congrArg (fun b=>gB none (wB true b)) h).symm.trans h3))|skip
    refine mustS (fun h2=>?_) (fun h2=>?_)
    ·rw[bif8]at h2;simp at h2
    all_goals(repeat' first|exact aq|refine aN ?_ ?_|exact tU)
    all_goals try exact dd
    refine⟨.panic (.iface 196 (.int .i64 1)),HZ s b m pl,Or.inl ⟨rfl,fun hv=>?_,rfl⟩,?_⟩
    ·have h4:=(okB_iff hvt i).2 (hv.2.2.2.2 i hin);rw[Bool.and_eq_true,Bool.and_eq_true]at h4;have h3:(bif inB (s.hut (0+((i:Nat):Int).toNat)) 0 3 then !decide ((s.t.height (s.fr (0+((i:Nat):Int).toNat))).e=2)else false)=false:=h3;rw[ei,h4.1,h4.2.1]at h3;exact Bool.noConfusion h3
    exact ent_tau [0,1,2,3,4,5,6,7,8,9,10,11] ⟨fPp,tMm,rfl⟩
  ·intro h1;(repeat' first|exact aq|refine aN ?_ ?_|exact tU);all_goals try exact dd
   all_goals first|exact(fun h=>tFx ((congrArg (fun b=>gB none (wB true b)) h).symm.trans h1))|skip
   ·intro h3;have h3:(bif inB (s.hut (0+((i:Nat):Int).toNat)) 0 3 then false else false)=true:=h3;simp at h3
   ·intro h3;(repeat' first|exact aq|refine aN ?_ ?_|exact tU);all_goals try exact dd
    all_goals first|exact(fun h=>by simp at h)|skip
    refine mustS (fun h2=>?_) (fun h2=>?_)
    ·rw[bif8]at h2;simp at h2
    all_goals(repeat' first|exact aq|refine aN ?_ ?_|exact tU)
    all_goals try exact dd
    refine⟨.panic (.iface 196 (.int .i64 1)),HZ s b m pl,Or.inl ⟨rfl,fun hv=>?_,rfl⟩,?_⟩
    ·have h4:=(okB_iff hvt i).2 (hv.2.2.2.2 i hin);rw[Bool.and_eq_true,Bool.and_eq_true]at h4;have h1:inB (s.hut (0+((i:Nat):Int).toNat)) 0 3=false:=h1;rw[ei,h4.1]at h1;exact Bool.noConfusion h1
    exact ent_tau [0,1,2,3,4,5,6,7,8,9,10,11] ⟨fPp,tMm,rfl⟩
 ·have hin:i=s.n:=by
   have:=of_decide_eq_false hc;omega
  subst hin;have hv:s.Valid:=⟨hvt,⟨hs1,hs2,hs3⟩,hpc,by omega,hok⟩;(repeat' first|exact aq|refine aN ?_ ?_|exact tU);all_goals try exact dd
  have cis:=t143 s hv.1.2.1.2 bp m cp pl hm;rw[hV]at cis;refine cis.use [0,1,2,3,4,5,8,10,11,9] ?_ (fPp) rfl;(repeat' first|exact aq|refine aN ?_ ?_|exact tU);all_goals try exact dd
  refine mustS (fun h=>?_) (fun h=>?_)
  ·subst h;(repeat' first|exact aq|refine aN ?_ ?_|exact tU);all_goals try exact dd
   refine CodeP.pre ?_ (seg62b s b m pl hv);exact ent_tau [0,1,2,3,4,5,6,7,8,9,10,11,12] ⟨fPp,tMm,rfl⟩
  ·subst h;(repeat' first|exact aq|refine aN ?_ ?_|exact tU);all_goals try exact dd
   refine⟨.panic (.iface 196 (.int .i64 2)),HZ s b m pl,Or.inr (Or.inl ⟨rfl,hv,rfl,rfl⟩),?_⟩;exact ent_tau [0,1,2,3,4,5,6,7,8,9,10,11] ⟨fPp,tMm,rfl⟩
noncomputable def HS(s:SD):SHeap:=[some (.roa 3 s.t.nM (row3 s.t.mi s.t.mlo s.t.mhi)),some (.roa 2 s.t.nS (row2 s.t.slo s.t.shi)),some (.roa 4 s.t.nL (row4 s.t.lp s.t.lm s.t.llo s.t.lhi)),
 some (.glob 1 [.int .i64 0,.int .i64 1,.int .i64 3,.int .i64 6,.int .i64 9,.int .i64 11,.int .i64 12]),some db,some (.roa 5 s.n s.F)]
open Classical in
noncomputable def SD.oe(s:SD)(v:Bool):Int:=if¬s.Valid then 1 else if v=false then 2 else if s.t.all=[]then 10 else 0
noncomputable def KO(s:SD)(v:Bool)(N:Nat)(B:SHeap):CE→SHeap→Prop:=fun ce h'=>
 (s.oe v≠0∧ce= .panic (.iface 196 (.int .i64 (s.oe v)))∧h'=B)∨
 (s.oe v=0∧(s.Valid∧v=true∧s.t.all≠[])∧s.n=0∧ce= .ret (.ptr N 0)∧h'=B++[some (.cells (bcv s s.RM 5 (.osl false 5 1 0 0)))])∨
 (s.oe v=0∧(s.Valid∧v=true∧s.t.all≠[])∧0<s.n∧ ∃co,s.n≤co∧co≤9223372036854775807∧ce= .ret (.ptr N 0)∧
  h'=B++[some (.cells (bcv s s.RM 5 (.osl true (N+1) 1 s.n co))),some (.arr 1 s.n co (rowN (srtF s.fr s.n)))])
theorem o62a(s:SD):CallP Tryz.prog 62 [SA s,.fn (.func 72) [] []] (HS s++[some (.roc [.int .i64 0])]) (KO s true 7 (HS s++[some (.roc [.int .i64 0])])):=by
 have h:=t62a s 0 0 (fun _=>0);have hal:Ent 7 ⟨argT [SA s,.fn (.func 72) [] []],HS s++[some (.roc [.int .i64 0])],[]⟩ ⟨argT [SA s,.fn (.func 72) [] []],HS s++[some (.roc [.int .i64 0]),some (.roa 1 0 (rowN id)),some (.roa 1 0 (rowN id)),some (.roa 1 0 (rowN id)),some (.roa 1 0 (rowN id)),some (.roa 1 0 (rowN id))],[]⟩:=(((((entAlias (i:=5) rfl 1 (rowN id)).trans (entAlias (i:=5) rfl 1 (rowN id))).trans (entAlias (i:=5) rfl 1 (rowN id))).trans (entAlias (i:=5) rfl 1 (rowN id))).trans (entAlias (i:=5) rfl 1 (rowN id)));refine CallP.ent (CallP.pre hal (CallP.frameH h [0,1,2,3,4,5,7,6,8,9,10,11] (by
  (repeat' first|exact fp|refine aN ?_ ?_);all_goals exact fun k hk=>absurd hk (Nat.not_lt_zero k)) rfl ?_))
 rintro ce h' (⟨rfl,hv,rfl⟩|⟨rfl,hv,e2,rfl⟩|⟨rfl,hv,e2,e3,rfl⟩|⟨hv,e2,e3,rfl,⟨h0,rfl⟩|⟨h0,cap,c1,c2,rfl⟩⟩)
 ·have oe:s.oe true=1:=if_pos hv;refine⟨rfl,.panic (.iface 196 (.int .i64 (s.oe true))),_,Or.inl ⟨by rw[oe];decide,rfl,rfl⟩,?_⟩;rw[oe];exact ent_tau [0,1,2,3,4,5,6] ⟨fPp,tMm,rfl⟩
 ·have oe:s.oe true=2:=by
   unfold SD.oe;rw[if_neg (fun h=>h hv),if_pos e2]
  refine⟨rfl,.panic (.iface 196 (.int .i64 (s.oe true))),_,Or.inl ⟨by rw[oe];decide,rfl,rfl⟩,?_⟩;rw[oe];exact ent_tau [0,1,2,3,4,5,6] ⟨fPp,tMm,rfl⟩
 ·have oe:s.oe true=10:=by
   unfold SD.oe;rw[if_neg (fun h=>h hv),if_neg (by rw[e2];decide),if_pos e3]
  refine⟨rfl,.panic (.iface 196 (.int .i64 (s.oe true))),_,Or.inl ⟨by rw[oe];decide,rfl,rfl⟩,?_⟩;rw[oe];exact ent_tau [0,1,2,3,4,5,6] ⟨fPp,tMm,rfl⟩
 ·have oe:s.oe true=0:=by
   unfold SD.oe;rw[if_neg (fun h=>h hv),if_neg (by rw[e2];decide),if_neg e3]
  refine⟨rfl,_,_,Or.inr (Or.inl ⟨oe,⟨hv,e2,e3⟩,h0,rfl,rfl⟩),?_⟩;show Ent 7 ⟨[some (none,.ptr 12 0)],_,[]⟩ ⟨[some (none,.ptr 7 0)],_,[]⟩;refine Ent.trans (entCells (i:=12) (cs:=bcv s s.RM 5 (.osl false 7 1 0 0)) (cs':=bcv s s.RM 5 (.osl false 5 1 0 0)) rfl (fun η=>by simp[bcv,den,denL])) ?_;exact ent_tau [0,1,2,3,4,5,6,12] ⟨fPp,tMm,rfl⟩
 ·have oe:s.oe true=0:=by
   unfold SD.oe;rw[if_neg (fun h=>h hv),if_neg (by rw[e2];decide),if_neg e3]
  refine⟨rfl,_,_,Or.inr (Or.inr ⟨oe,⟨hv,e2,e3⟩,h0,cap,c1,c2,rfl,rfl⟩),?_⟩;show Ent 7 ⟨[some (none,.ptr 12 0)],_,[]⟩ ⟨[some (none,.ptr 7 0)],_,[]⟩;refine Ent.trans (entCells (i:=12) (cs:=bcv s s.RM 5 (.slice 13 1 0 s.n cap)) (cs':=bcv s s.RM 5 (.osl true 13 1 s.n cap)) rfl (fun η=>by simp[bcv,den,denL])) ?_;exact ent_tau [0,1,2,3,4,5,6,12,13] ⟨fPp,tMm,rfl⟩
theorem o62r(s:SD)(b:Int):CallP Tryz.prog 62 [SA s,.fn (.func 63) [] [.ptr 7 0,.ptr 6 0]] (HS s++[some (.roc (svd s 5)),some (.roc [.int .i64 b])]) (KO s (inB b 0 ((s.n:Nat)-1)) 8 (HS s++[some .dead,some (.roc [.int .i64 b])])):=by
 have h:=t62r s b 0 (fun _=>0);have hal:Ent 8 ⟨argT [SA s,.fn (.func 63) [] [.ptr 7 0,.ptr 6 0]],HS s++[some (.roc (svd s 5)),some (.roc [.int .i64 b])],[]⟩ ⟨argT [SA s,.fn (.func 63) [] [.ptr 7 0,.ptr 6 0]],HS s++[some (.roc (svd s 5)),some (.roc [.int .i64 b]),some (.roa 1 0 (rowN id)),some (.roa 1 0 (rowN id)),some (.roa 1 0 (rowN id)),some (.roa 1 0 (rowN id))],[]⟩:=((((entAlias (i:=5) rfl 1 (rowN id)).trans (entAlias (i:=5) rfl 1 (rowN id))).trans (entAlias (i:=5) rfl 1 (rowN id))).trans (entAlias (i:=5) rfl 1 (rowN id)));refine CallP.ent (CallP.pre hal (CallP.frameH h [0,1,2,3,4,5,8,7,6,9,10,11] (by
  (repeat' first|exact fp|refine aN ?_ ?_);all_goals exact fun k hk=>absurd hk (Nat.not_lt_zero k)) rfl ?_))
 rintro ce h' (⟨rfl,hv,rfl⟩|⟨rfl,hv,e2,rfl⟩|⟨rfl,hv,e2,e3,rfl⟩|⟨hv,e2,e3,rfl,⟨h0,rfl⟩|⟨h0,cap,c1,c2,rfl⟩⟩)
 ·have oe:s.oe (inB b 0 ((s.n:Nat)-1))=1:=if_pos hv;refine⟨rfl,.panic (.iface 196 (.int .i64 (s.oe (inB b 0 ((s.n:Nat)-1))))),_,Or.inl ⟨by rw[oe];decide,rfl,rfl⟩,?_⟩;rw[oe];exact ent_tau [0,1,2,3,4,5,6,7] ⟨fPp,tMm,rfl⟩
 ·have oe:s.oe (inB b 0 ((s.n:Nat)-1))=2:=by
   unfold SD.oe;rw[if_neg (fun h=>h hv),if_pos e2]
  refine⟨rfl,.panic (.iface 196 (.int .i64 (s.oe (inB b 0 ((s.n:Nat)-1))))),_,Or.inl ⟨by rw[oe];decide,rfl,rfl⟩,?_⟩;rw[oe];exact ent_tau [0,1,2,3,4,5,6,7] ⟨fPp,tMm,rfl⟩
 ·have oe:s.oe (inB b 0 ((s.n:Nat)-1))=10:=by
   unfold SD.oe;rw[if_neg (fun h=>h hv),if_neg (by rw[e2];decide),if_pos e3]
  refine⟨rfl,.panic (.iface 196 (.int .i64 (s.oe (inB b 0 ((s.n:Nat)-1))))),_,Or.inl ⟨by rw[oe];decide,rfl,rfl⟩,?_⟩;rw[oe];exact ent_tau [0,1,2,3,4,5,6,7] ⟨fPp,tMm,rfl⟩
 ·have oe:s.oe (inB b 0 ((s.n:Nat)-1))=0:=by
   unfold SD.oe;rw[if_neg (fun h=>h hv),if_neg (by rw[e2];decide),if_neg e3]
  refine⟨rfl,_,_,Or.inr (Or.inl ⟨oe,⟨hv,e2,e3⟩,h0,rfl,rfl⟩),?_⟩;show Ent 8 ⟨[some (none,.ptr 12 0)],_,[]⟩ ⟨[some (none,.ptr 8 0)],_,[]⟩;refine Ent.trans (entCells (i:=12) (cs:=bcv s s.RM 5 (.osl false 8 1 0 0)) (cs':=bcv s s.RM 5 (.osl false 5 1 0 0)) rfl (fun η=>by simp[bcv,den,denL])) ?_;exact ent_tau [0,1,2,3,4,5,6,7,12] ⟨fPp,tMm,rfl⟩
 ·have oe:s.oe (inB b 0 ((s.n:Nat)-1))=0:=by
   unfold SD.oe;rw[if_neg (fun h=>h hv),if_neg (by rw[e2];decide),if_neg e3]
  refine⟨rfl,_,_,Or.inr (Or.inr ⟨oe,⟨hv,e2,e3⟩,h0,cap,c1,c2,rfl,rfl⟩),?_⟩;show Ent 8 ⟨[some (none,.ptr 12 0)],_,[]⟩ ⟨[some (none,.ptr 8 0)],_,[]⟩;refine Ent.trans (entCells (i:=12) (cs:=bcv s s.RM 5 (.slice 13 1 0 s.n cap)) (cs':=bcv s s.RM 5 (.osl true 13 1 s.n cap)) rfl (fun η=>by simp[bcv,den,denL])) ?_;exact ent_tau [0,1,2,3,4,5,6,7,12,13] ⟨fPp,tMm,rfl⟩
theorem o62p(s:SD)(bp:Bool)(m cp:Nat)(pl:Nat→Int)(hm:m≤9223372036854775807):CallP Tryz.prog 62 [SA s,.fn (.func 143) [] [.ptr 8 0,.ptr 7 0,.ptr 9 0]] (HS s++[some (.roa 1 m (rowI pl)),some (.roc (svd s 5)),some (.roc [.osl bp 6 1 m cp]),some (.roc [.fn (.func 142) [] [.ptr 7 0]]),some (.roc [.int .i64 0])]) (KO s (isPl s m pl) 11 (HS s++[some (.roa 1 m (rowI pl)),some .dead,some .dead,some .dead,some (.roc [.int .i64 0])])):=by
 have h:=t62p s 0 m pl bp cp hm;have hal:Ent 11 ⟨argT [SA s,.fn (.func 143) [] [.ptr 8 0,.ptr 7 0,.ptr 9 0]],HS s++[some (.roa 1 m (rowI pl)),some (.roc (svd s 5)),some (.roc [.osl bp 6 1 m cp]),some (.roc [.fn (.func 142) [] [.ptr 7 0]]),some (.roc [.int .i64 0])],[]⟩ ⟨argT [SA s,.fn (.func 143) [] [.ptr 8 0,.ptr 7 0,.ptr 9 0]],HS s++[some (.roa 1 m (rowI pl)),some (.roc (svd s 5)),some (.roc [.osl bp 6 1 m cp]),some (.roc [.fn (.func 142) [] [.ptr 7 0]]),some (.roc [.int .i64 0]),some (.roa 1 0 (rowN id))],[]⟩:=(entAlias (i:=5) rfl 1 (rowN id));refine CallP.ent (CallP.pre hal (CallP.frameH h [0,1,2,3,4,5,11,10,7,9,6,8] (by
  (repeat' first|exact fp|refine aN ?_ ?_);all_goals exact fun k hk=>absurd hk (Nat.not_lt_zero k)) rfl ?_))
 rintro ce h' (⟨rfl,hv,rfl⟩|⟨rfl,hv,e2,rfl⟩|⟨rfl,hv,e2,e3,rfl⟩|⟨hv,e2,e3,rfl,⟨h0,rfl⟩|⟨h0,cap,c1,c2,rfl⟩⟩)
 ·have oe:s.oe (isPl s m pl)=1:=if_pos hv;refine⟨rfl,.panic (.iface 196 (.int .i64 (s.oe (isPl s m pl)))),_,Or.inl ⟨by rw[oe];decide,rfl,rfl⟩,?_⟩;rw[oe];exact ent_tau [0,1,2,3,4,5,6,7,8,9,10] ⟨fPp,tMm,rfl⟩
 ·have oe:s.oe (isPl s m pl)=2:=by
   unfold SD.oe;rw[if_neg (fun h=>h hv),if_pos e2]
  refine⟨rfl,.panic (.iface 196 (.int .i64 (s.oe (isPl s m pl)))),_,Or.inl ⟨by rw[oe];decide,rfl,rfl⟩,?_⟩;rw[oe];exact ent_tau [0,1,2,3,4,5,6,7,8,9,10] ⟨fPp,tMm,rfl⟩
 ·have oe:s.oe (isPl s m pl)=10:=by
   unfold SD.oe;rw[if_neg (fun h=>h hv),if_neg (by rw[e2];decide),if_pos e3]
  refine⟨rfl,.panic (.iface 196 (.int .i64 (s.oe (isPl s m pl)))),_,Or.inl ⟨by rw[oe];decide,rfl,rfl⟩,?_⟩;rw[oe];exact ent_tau [0,1,2,3,4,5,6,7,8,9,10] ⟨fPp,tMm,rfl⟩
 ·have oe:s.oe (isPl s m pl)=0:=by
   unfold SD.oe;rw[if_neg (fun h=>h hv),if_neg (by rw[e2];decide),if_neg e3]
  refine⟨rfl,_,_,Or.inr (Or.inl ⟨oe,⟨hv,e2,e3⟩,h0,rfl,rfl⟩),?_⟩;show Ent 11 ⟨[some (none,.ptr 12 0)],_,[]⟩ ⟨[some (none,.ptr 11 0)],_,[]⟩;refine Ent.trans (entCells (i:=12) (cs:=bcv s s.RM 5 (.osl false 11 1 0 0)) (cs':=bcv s s.RM 5 (.osl false 5 1 0 0)) rfl (fun η=>by simp[bcv,den,denL])) ?_;exact ent_tau [0,1,2,3,4,5,6,7,8,9,10,12] ⟨fPp,tMm,rfl⟩
 ·have oe:s.oe (isPl s m pl)=0:=by
   unfold SD.oe;rw[if_neg (fun h=>h hv),if_neg (by rw[e2];decide),if_neg e3]
  refine⟨rfl,_,_,Or.inr (Or.inr ⟨oe,⟨hv,e2,e3⟩,h0,cap,c1,c2,rfl,rfl⟩),?_⟩;show Ent 11 ⟨[some (none,.ptr 12 0)],_,[]⟩ ⟨[some (none,.ptr 11 0)],_,[]⟩;refine Ent.trans (entCells (i:=12) (cs:=bcv s s.RM 5 (.slice 13 1 0 s.n cap)) (cs':=bcv s s.RM 5 (.osl true 13 1 s.n cap)) rfl (fun η=>by simp[bcv,den,denL])) ?_;exact ent_tau [0,1,2,3,4,5,6,7,8,9,10,12,13] ⟨fPp,tMm,rfl⟩
noncomputable def rest61:Code:=match Tryz.f61.body with
 |some (.seq _ r)=>r
 |_=> .skip
theorem isrec61:IsRec2 Tryz.f61 5 2 rest61:=⟨_,_,_,_,_,_,_,rfl,by decide,by decide,rfl⟩
def pl16_2s:Plan:= .eager 1<| .alt 0 (.alt 2 (eg [4,5]<| .alt 3 (.eager 6<| .alt 7 (.eager 8<| .alt 9 (.done) .no) .no) .no) (.alt 3 (.alt 2 (eg [4,5,6]<| .alt 7 (.eager 8<| .alt 9 (.done) .no) .no) .no) .no)) (.alt 3 (.alt 0 (.alt 2 (eg [4,5,6]<| .alt 7 (.eager 8<| .alt 9 (.done) .no) .no) .no) .no) .no)
noncomputable def SD.rightT(s:SD)(b:Int):ToldT Int:=⟨if s.oe (inB b 0 ((s.n:Nat)-1))=0 then(s.rightM b.toNat:Nat)else 0,s.oe (inB b 0 ((s.n:Nat)-1))⟩
theorem t16(s:SD)(b:Int):CallP Tryz.prog 16 [SA s,.int .i64 b] (HS s) (Ret (.tup [.int .i64 (s.rightT b).v,.int .i64 (s.rightT b).e]) (HS s)):=by
 have c:=o62r s b;unfold KO at c;unfold SD.rightT;obtain⟨V,hV⟩: ∃V,inB b 0 ((s.n:Nat)-1)=V:=⟨_,rfl⟩;rw[hV]at c⊢;obtain⟨e,he⟩: ∃e,s.oe V=e:=⟨_,rfl⟩;rw[he]at c⊢;obtain⟨r,hr⟩: ∃r,(if e=0 then((s.rightM b.toNat:Nat):Int)else 0)=r:=⟨_,rfl⟩;rw[hr];refine callDR (E:=E) E_ok Tryz.func16 rfl (g:=61) (k1:=5) (k2:=2) Tryz.func61 isrec61 rfl ?_;(repeat' first|exact aq|refine aN ?_ ?_|exact tU);all_goals try exact dd
 refine drawP E_ok [] pl16_2s (by kernel_rfl) ?_;(repeat' first|exact aq|refine aN ?_ ?_|exact tU);all_goals try exact dd
 ·refine CallP.frameH c [0,1,2,3,4,5,6,7] (fPp) rfl ?_;rintro ce h' (⟨h0,rfl,rfl⟩|⟨h0,⟨hv,hVt,ha⟩,hn,rfl,rfl⟩|⟨h0,⟨hv,hVt,ha⟩,hn,co,c1,c2,rfl,rfl⟩)
  ·rw[if_neg h0]at hr;subst hr;refine⟨rfl,?_⟩;(repeat' first|exact aq|refine aN ?_ ?_|exact tU);all_goals try exact dd
   all_goals(repeat' first|exact aq|refine aN ?_ ?_|exact tU)
   all_goals try exact dd
   all_goals intro h1
   all_goals first|exact absurd h1 (by decide)|(cases h1;done)|skip
   all_goals(repeat' first|exact aq|refine aN ?_ ?_|exact tU)
   all_goals try exact dd
   all_goals(repeat' first|exact aq|refine aN ?_ ?_|exact tU)
   all_goals try exact dd
   all_goals intro h2
   all_goals first|exact absurd h2 (by decide)|(cases h2;done)|skip
   all_goals(repeat' first|exact aq|refine aN ?_ ?_|exact tU)
   all_goals try exact dd
   refine⟨_,_,⟨rfl,rfl⟩,?_⟩;exact ent_tau [0,1,2,3,4,5] ⟨fPp,tMm,rfl⟩
  ·exfalso;rw[hVt,hn]at hV;unfold inB at hV;simp only[Bool.and_eq_true,decide_eq_true_iff]at hV;omega
  ·rw[if_pos h0]at hr;subst h0;obtain⟨i,rfl,hin⟩: ∃i:Nat,b=i∧i<s.n:=by
    rw[hVt]at hV;unfold inB at hV;simp only[Bool.and_eq_true,decide_eq_true_iff]at hV;exact⟨b.toNat,by omega,by omega⟩
   have hn5:=hv.2.2.2.1;refine⟨rfl,?_⟩;(repeat' first|exact aq|refine aN ?_ ?_|exact tU);all_goals try exact dd
   all_goals(repeat' first|exact aq|refine aN ?_ ?_|exact tU)
   all_goals try exact dd
   all_goals intro h1
   all_goals first|exact absurd h1 (by decide)|(cases h1;done)|skip
   all_goals(repeat' first|exact aq|refine aN ?_ ?_|exact tU)
   all_goals try exact dd
   refine⟨_,_,⟨rfl,rfl⟩,?_⟩;refine ent_tau [0,1,2,3,4,5] ⟨fPp,⟨rfl,?_,trivial⟩,rfl⟩;have e1:=get5 s.RM (show i<5 by omega);rw[RM_at hin]at e1;rw[Int.toNat_natCast]at hr;exact congrArg (fun x=>SV.tup [.int .i64 x,.int .i64 0]) (e1.trans hr)
 ·refine CallP.frameH c [0,1,2,3,4,5,6,7] (fPp) rfl ?_;rintro ce h' (⟨h0,rfl,rfl⟩|⟨h0,⟨hv,hVt,ha⟩,hn,rfl,rfl⟩|⟨h0,⟨hv,hVt,ha⟩,hn,co,c1,c2,rfl,rfl⟩)
  ·rw[if_neg h0]at hr;subst hr;refine⟨rfl,?_⟩;(repeat' first|exact aq|refine aN ?_ ?_|exact tU);all_goals try exact dd
   all_goals(repeat' first|exact aq|refine aN ?_ ?_|exact tU)
   all_goals try exact dd
   all_goals intro h1
   all_goals first|exact absurd h1 (by decide)|(cases h1;done)|skip
   all_goals(repeat' first|exact aq|refine aN ?_ ?_|exact tU)
   all_goals try exact dd
   all_goals(repeat' first|exact aq|refine aN ?_ ?_|exact tU)
   all_goals try exact dd
   all_goals intro h2
   all_goals first|exact absurd h2 (by decide)|(cases h2;done)|skip
   all_goals(repeat' first|exact aq|refine aN ?_ ?_|exact tU)
   all_goals try exact dd
   refine⟨_,_,⟨rfl,rfl⟩,?_⟩;exact ent_tau [0,1,2,3,4,5] ⟨fPp,tMm,rfl⟩
  ·exfalso;rw[hVt,hn]at hV;unfold inB at hV;simp only[Bool.and_eq_true,decide_eq_true_iff]at hV;omega
  ·rw[if_pos h0]at hr;subst h0;obtain⟨i,rfl,hin⟩: ∃i:Nat,b=i∧i<s.n:=by
    rw[hVt]at hV;unfold inB at hV;simp only[Bool.and_eq_true,decide_eq_true_iff]at hV;exact⟨b.toNat,by omega,by omega⟩
   have hn5:=hv.2.2.2.1;refine⟨rfl,?_⟩;(repeat' first|exact aq|refine aN ?_ ?_|exact tU);all_goals try exact dd
   all_goals(repeat' first|exact aq|refine aN ?_ ?_|exact tU)
   all_goals try exact dd
   all_goals intro h1
   all_goals first|exact absurd h1 (by decide)|(cases h1;done)|skip
   all_goals(repeat' first|exact aq|refine aN ?_ ?_|exact tU)
   all_goals try exact dd
   refine⟨_,_,⟨rfl,rfl⟩,?_⟩;refine ent_tau [0,1,2,3,4,5] ⟨fPp,⟨rfl,?_,trivial⟩,rfl⟩;have e1:=get5 s.RM (show i<5 by omega);rw[RM_at hin]at e1;rw[Int.toNat_natCast]at hr;exact congrArg (fun x=>SV.tup [.int .i64 x,.int .i64 0]) (e1.trans hr)
 ·refine CallP.frameH c [0,1,2,3,4,5,6,7] (fPp) rfl ?_;rintro ce h' (⟨h0,rfl,rfl⟩|⟨h0,⟨hv,hVt,ha⟩,hn,rfl,rfl⟩|⟨h0,⟨hv,hVt,ha⟩,hn,co,c1,c2,rfl,rfl⟩)
  ·rw[if_neg h0]at hr;subst hr;refine⟨rfl,?_⟩;(repeat' first|exact aq|refine aN ?_ ?_|exact tU);all_goals try exact dd
   all_goals(repeat' first|exact aq|refine aN ?_ ?_|exact tU)
   all_goals try exact dd
   all_goals intro h1
   all_goals first|exact absurd h1 (by decide)|(cases h1;done)|skip
   all_goals(repeat' first|exact aq|refine aN ?_ ?_|exact tU)
   all_goals try exact dd
   all_goals(repeat' first|exact aq|refine aN ?_ ?_|exact tU)
   all_goals try exact dd
   all_goals intro h2
   all_goals first|exact absurd h2 (by decide)|(cases h2;done)|skip
   all_goals(repeat' first|exact aq|refine aN ?_ ?_|exact tU)
   all_goals try exact dd
   refine⟨_,_,⟨rfl,rfl⟩,?_⟩;exact ent_tau [0,1,2,3,4,5] ⟨fPp,tMm,rfl⟩
  ·exfalso;rw[hVt,hn]at hV;unfold inB at hV;simp only[Bool.and_eq_true,decide_eq_true_iff]at hV;omega
  ·rw[if_pos h0]at hr;subst h0;obtain⟨i,rfl,hin⟩: ∃i:Nat,b=i∧i<s.n:=by
    rw[hVt]at hV;unfold inB at hV;simp only[Bool.and_eq_true,decide_eq_true_iff]at hV;exact⟨b.toNat,by omega,by omega⟩
   have hn5:=hv.2.2.2.1;refine⟨rfl,?_⟩;(repeat' first|exact aq|refine aN ?_ ?_|exact tU);all_goals try exact dd
   all_goals(repeat' first|exact aq|refine aN ?_ ?_|exact tU)
   all_goals try exact dd
   all_goals intro h1
   all_goals first|exact absurd h1 (by decide)|(cases h1;done)|skip
   all_goals(repeat' first|exact aq|refine aN ?_ ?_|exact tU)
   all_goals try exact dd
   refine⟨_,_,⟨rfl,rfl⟩,?_⟩;refine ent_tau [0,1,2,3,4,5] ⟨fPp,⟨rfl,?_,trivial⟩,rfl⟩;have e1:=get5 s.RM (show i<5 by omega);rw[RM_at hin]at e1;rw[Int.toNat_natCast]at hr;exact congrArg (fun x=>SV.tup [.int .i64 x,.int .i64 0]) (e1.trans hr)
end Go.Proofs.YthnhlkflkidemaaGreatDoor
