/-
  Parts: V38, V37, V39, V40.
-/
import Derived.Test.YthnhlkflkidemaaGreatDoorB30
import Derived.Test.YthnhlkflkidemaaGreatDoorB31
import Derived.Test.YthnhlkflkidemaaGreatDoorB36
import Derived.Test.YthnhlkflkidemaaGreatDoorB37
import Derived.Test.YthnhlkflkidemaaGreatDoorB27
import Derived.KernelRfl
set_option linter.unusedVariables false
set_option linter.unusedSimpArgs false
/-
 Contracts: are two lists the same? (--fast)
-/
namespace Go.Proofs.YthnhlkflkidemaaGreatDoor
open Go Go.Sy Srv
set_option maxRecDepth 100000
set_option maxHeartbeats 4000000
attribute [local irreducible] CallP CodeP Ent YieldP
set_option maxHeartbeats 16000000
def eqI(n m:Nat)(x y:Nat→Int):Bool:=decide (((n:Nat):Int)=(m:Nat))&&(List.range n).all fun k=>decide (x k=y k)
def eqM(n m:Nat)(x y:MV):Bool:=decide (((n:Nat):Int)=(m:Nat))&&(List.range n).all fun k=>decide (x k=y k)
theorem eqI_iff{n m:Nat}{x y:Nat→Int} :eqI n m x y=true↔n=m∧ ∀k,k<n→x k=y k:=by
 unfold eqI;simp only[Bool.and_eq_true,decide_eq_true_iff,List.all_eq_true,List.mem_range];constructor
 ·rintro⟨h,h2⟩
  exact⟨by omega,h2⟩
 ·rintro⟨h,h2⟩
  exact⟨by omega,h2⟩
theorem eqM_iff{n m:Nat}{x y:MV} :eqM n m x y=true↔n=m∧ ∀k,k<n→x k=y k:=by
 unfold eqM;simp only[Bool.and_eq_true,decide_eq_true_iff,List.all_eq_true,List.mem_range];constructor
 ·rintro⟨h,h2⟩
  exact⟨by omega,h2⟩
 ·rintro⟨h,h2⟩
  exact⟨by omega,h2⟩
theorem mv_eq(a b:Int×Int×Int×Int):(a=b)↔[a.1,a.2.1,a.2.2.1,a.2.2.2]=[b.1,b.2.1,b.2.2.1,b.2.2.2]:=by
 obtain⟨a1,a2,a3,a4⟩:=a;obtain⟨b1,b2,b3,b4⟩:=b;simp
theorem t87ss(n m c1 c2:Nat)(x y:Nat→Int)(hn:n≤9223372036854775807):CallP Tryz.prog 87 [.slice 0 1 0 n c1,.slice 1 1 0 m c2] [some (.roa 1 n (rowI x)),some (.roa 1 m (rowI y))] (Ret (.bool (eqI n m x y)) [some (.roa 1 n (rowI x)),some (.roa 1 m (rowI y))]):=by
 have qi:=eqI_iff (n:=n) (m:=m) (x:=x) (y:=y);obtain⟨r,hr⟩: ∃r,eqI n m x y=r:=⟨_,rfl⟩;rw[hr]at qi⊢;refine callR (E:=E) E_ok Tryz.func87 rfl ?_;(repeat' first|exact aq|refine aN ?_ ?_|exact tU);all_goals try exact dd
 ·intro h1;have h1:(!decide (((n:Nat):Int)=(m:Nat)))=true:=h1;have h1: ¬n=m:=fun e=>by rw[decide_eq_true (by omega)]at h1;exact Bool.noConfusion h1
  obtain rfl:r=false:=by
   cases r
   ·rfl
   ·exact absurd (qi.1 rfl).1 h1
  (repeat' first|exact aq|refine aN ?_ ?_|exact tU);all_goals try exact dd
  exact ent_tau [0,1] ⟨fPp,tMm,rfl⟩
 ·intro h1;have h1:(!decide (((n:Nat):Int)=(m:Nat)))=false:=h1;have h1:n=m:=by
   by_cases e:n=m
   ·exact e
   ·rw[decide_eq_false (by omega)]at h1;exact Bool.noConfusion h1
  subst h1;(repeat' first|exact aq|refine aN ?_ ?_|exact tU);all_goals try exact dd
  refine loopP E_ok [0,1] (fun i:Nat=>[(5,.int .i64 (i:Nat))]) (fun _ H=>H) (fun i=>i≤n∧ ∀k,k<i→x k=y k) (fun i=>n-i) 0 ⟨Nat.zero_le _,fun k hk=>absurd hk (Nat.not_lt_zero k)⟩ ?_ ?_
  ·exact ent_tau [0,1] ⟨fPp,tMm,rfl⟩
  rintro i ⟨hi,hc⟩;have ei:=z1 i;(repeat' first|exact aq|refine aN ?_ ?_|exact tU);all_goals try exact dd
  ·intro hb;have hin:i<n:=by
    have:=of_decide_eq_true hb;omega
   obtain⟨B,hB⟩: ∃B,decide (Eq (x (0+((i:Nat):Int).toNat)) (y (0+((i:Nat):Int).toNat)))=B:=⟨_,rfl⟩;(repeat' first|exact aq|refine aN ?_ ?_|exact tU);all_goals try exact dd
   refine drawP E_ok [] pl87_6 (by kernel_rfl) ?_;cases B with
   |true=>
    all_goals(repeat' first|exact aq|refine aN ?_ ?_|exact tU)
    all_goals try exact dd
    all_goals intro h2
    all_goals first|(exfalso;(try rw[hB]at h2);exact tFx h2)|(exfalso;(try rw[hB]at h2);exact fTx h2)|skip
    all_goals(repeat' first|exact aq|refine aN ?_ ?_|exact tU)
    all_goals try exact dd
    refine⟨i+1,⟨hin,fun k hk=>?_⟩,by omega,?_⟩
    ·rcases Nat.lt_or_ge k i with h|h
     ·exact hc k h
     ·obtain rfl:k=i:=by omega
      have h3:=of_decide_eq_true hB;rw[ei]at h3;exact h3
    exact ent_tau [0,1] ⟨fPp,tMm,rfl⟩
   |false=>
    have hne: ¬x i=y i:=fun e=>by
     have h3:=of_decide_eq_false hB;rw[ei]at h3;exact h3 (e)
    obtain rfl:r=false:=by
     cases r
     ·rfl
     ·exact absurd ((qi.1 rfl).2 i hin) hne
    all_goals(repeat' first|exact aq|refine aN ?_ ?_|exact tU)
    all_goals try exact dd
    all_goals intro h2
    all_goals first|(exfalso;(try rw[hB]at h2);exact tFx h2)|(exfalso;(try rw[hB]at h2);exact fTx h2)|skip
    all_goals(repeat' first|exact aq|refine aN ?_ ?_|exact tU)
    all_goals try exact dd
    exact ent_tau [0,1] ⟨fPp,tMm,rfl⟩
  ·intro hb;have hin:i=n:=by
    have:=of_decide_eq_false hb;omega
   subst hin;obtain rfl:r=true:=qi.2 ⟨rfl,hc⟩;(repeat' first|exact aq|refine aN ?_ ?_|exact tU);all_goals try exact dd
   exact ent_tau [0,1] ⟨fPp,tMm,rfl⟩
theorem t29ss(n m c1 c2:Nat)(x y:Nat→Int)(hn:n≤9223372036854775807):CallP Tryz.prog 29 [.slice 0 1 0 n c1,.slice 1 1 0 m c2] [some (.roa 1 n (rowI x)),some (.roa 1 m (rowI y))] (Ret (.bool (eqI n m x y)) [some (.roa 1 n (rowI x)),some (.roa 1 m (rowI y))]):=by
 refine callR (E:=E) E_ok Tryz.func29 rfl ?_;(repeat' first|exact aq|refine aN ?_ ?_|exact tU);all_goals try exact dd
 refine(t87ss n m c1 c2 x y hn).use [0,1] ?_ (fPp) rfl;(repeat' first|exact aq|refine aN ?_ ?_|exact tU);all_goals try exact dd
 exact ent_tau [0,1] ⟨fPp,tMm,rfl⟩
theorem t24ss(n m c1 c2:Nat)(x y:MV)(hn:n≤9223372036854775807):CallP Tryz.prog 24 [.slice 0 4 0 n c1,.slice 1 4 0 m c2] [some (.roa 4 n (rowM x)),some (.roa 4 m (rowM y))] (Ret (.bool (eqM n m x y)) [some (.roa 4 n (rowM x)),some (.roa 4 m (rowM y))]):=by
 have qi:=eqM_iff (n:=n) (m:=m) (x:=x) (y:=y);obtain⟨r,hr⟩: ∃r,eqM n m x y=r:=⟨_,rfl⟩;rw[hr]at qi⊢;refine callR (E:=E) E_ok Tryz.func24 rfl ?_;(repeat' first|exact aq|refine aN ?_ ?_|exact tU);all_goals try exact dd
 ·intro h1;have h1:(!decide (((n:Nat):Int)=(m:Nat)))=true:=h1;have h1: ¬n=m:=fun e=>by rw[decide_eq_true (by omega)]at h1;exact Bool.noConfusion h1
  obtain rfl:r=false:=by
   cases r
   ·rfl
   ·exact absurd (qi.1 rfl).1 h1
  (repeat' first|exact aq|refine aN ?_ ?_|exact tU);all_goals try exact dd
  exact ent_tau [0,1] ⟨fPp,tMm,rfl⟩
 ·intro h1;have h1:(!decide (((n:Nat):Int)=(m:Nat)))=false:=h1;have h1:n=m:=by
   by_cases e:n=m
   ·exact e
   ·rw[decide_eq_false (by omega)]at h1;exact Bool.noConfusion h1
  subst h1;(repeat' first|exact aq|refine aN ?_ ?_|exact tU);all_goals try exact dd
  refine loopP E_ok [0,1] (fun i:Nat=>[(5,.int .i64 (i:Nat))]) (fun _ H=>H) (fun i=>i≤n∧ ∀k,k<i→x k=y k) (fun i=>n-i) 0 ⟨Nat.zero_le _,fun k hk=>absurd hk (Nat.not_lt_zero k)⟩ ?_ ?_
  ·exact ent_tau [0,1] ⟨fPp,tMm,rfl⟩
  rintro i ⟨hi,hc⟩;have ei:=z1 i;(repeat' first|exact aq|refine aN ?_ ?_|exact tU);all_goals try exact dd
  ·intro hb;have hin:i<n:=by
    have:=of_decide_eq_true hb;omega
   obtain⟨B,hB⟩: ∃B,decide ([(x (0+((i:Nat):Int).toNat)).1,(x (0+((i:Nat):Int).toNat)).2.1,(x (0+((i:Nat):Int).toNat)).2.2.1,(x (0+((i:Nat):Int).toNat)).2.2.2]=[(y (0+((i:Nat):Int).toNat)).1,(y (0+((i:Nat):Int).toNat)).2.1,(y (0+((i:Nat):Int).toNat)).2.2.1,(y (0+((i:Nat):Int).toNat)).2.2.2])=B:=⟨_,rfl⟩;(repeat' first|exact aq|refine aN ?_ ?_|exact tU);all_goals try exact dd
   refine drawP E_ok [] pl24_6 (by kernel_rfl) ?_;cases B with
   |true=>
    all_goals(repeat' first|exact aq|refine aN ?_ ?_|exact tU)
    all_goals try exact dd
    all_goals intro h2
    all_goals first|(exfalso;(try rw[hB]at h2);exact tFx h2)|(exfalso;(try rw[hB]at h2);exact fTx h2)|skip
    all_goals(repeat' first|exact aq|refine aN ?_ ?_|exact tU)
    all_goals try exact dd
    refine⟨i+1,⟨hin,fun k hk=>?_⟩,by omega,?_⟩
    ·rcases Nat.lt_or_ge k i with h|h
     ·exact hc k h
     ·obtain rfl:k=i:=by omega
      have h3:=of_decide_eq_true hB;rw[ei]at h3;exact(mv_eq _ _).2 h3
    exact ent_tau [0,1] ⟨fPp,tMm,rfl⟩
   |false=>
    have hne: ¬x i=y i:=fun e=>by
     have h3:=of_decide_eq_false hB;rw[ei]at h3;exact h3 ((mv_eq _ _).1 e)
    obtain rfl:r=false:=by
     cases r
     ·rfl
     ·exact absurd ((qi.1 rfl).2 i hin) hne
    all_goals(repeat' first|exact aq|refine aN ?_ ?_|exact tU)
    all_goals try exact dd
    all_goals intro h2
    all_goals first|(exfalso;(try rw[hB]at h2);exact tFx h2)|(exfalso;(try rw[hB]at h2);exact fTx h2)|skip
    all_goals(repeat' first|exact aq|refine aN ?_ ?_|exact tU)
    all_goals try exact dd
    exact ent_tau [0,1] ⟨fPp,tMm,rfl⟩
  ·intro hb;have hin:i=n:=by
    have:=of_decide_eq_false hb;omega
   subst hin;obtain rfl:r=true:=qi.2 ⟨rfl,hc⟩;(repeat' first|exact aq|refine aN ?_ ?_|exact tU);all_goals try exact dd
   exact ent_tau [0,1] ⟨fPp,tMm,rfl⟩
open Go Go.Sy Srv Kuhn
def ix(l:List Int)(k:Nat):Int:=l.getD k 0
def TX:TD where
 nM:=3;nS:=2;nL:=1;mi:=ix [0,60,120];mlo:=ix [10,40,12];mhi:=ix [12,41,12];slo:=ix [5,20];shi:=ix [6,20];lp:=ix [1,1];lm:=ix [30,30];llo:=ix [6,5];lhi:=ix [6,5];bM:=true;bS:=true;bL:=true;cM:=3;cS:=2;cL:=1
def SX(n c:Nat):SD where
 t:=TX;n:=n;hut:=ix [0,0,1,1,0];fr:=ix [30,8,88,110,12];to:=ix [33,11,91,113,14];le:=ix [5,5,5,0,5];mo:=ix [8,9,8,60,8];slo:=2;shi:=3;pace:=1;b:=true;cap:=c
theorem lt3{k:Nat}(h:k<3):k=0∨k=1∨k=2:=by omega
theorem lt2{k:Nat}(h:k<2):k=0∨k=1:=by omega
theorem TX_valid:TX.Valid:=by
 refine⟨⟨by show 2≤3;decide,by show 3≤4;decide⟩,⟨by show 1≤2;decide,by show 2≤4;decide⟩,by show 1≤6;omega,fun i hi=>?_,fun i hi=>?_,fun i hi=>?_⟩
 ·rcases lt3 hi with rfl|rfl|rfl<;>simp[TD.markOk,TX,ix]
 ·rcases lt2 hi with rfl|rfl<;>simp[TD.sandOk,TX,ix]
 ·obtain rfl:i=0:=Nat.lt_one_iff.1 hi;simp[TD.lookOk,TX,ix]
def trX(a b c:Int):Tr:=TX.tr (upd (upd (upd (fun _=>0) 0 a) 1 b) 2 c)
def allL:List Tr:=[trX 11 41 12,trX 12 40 12,trX 12 41 12]
theorem allX:TX.all=allL:=by kernel_rfl
theorem allX_ne: ¬TX.all=[]:=by rw[allX];simp[allL]
theorem gX(p:Nat)(l h:Int):goodM TX p l h=fun m=>decide (l≤hulLo (a98 TX m p) allL 3)&&decide (hulHi (b98 TX m p) allL 3≤h):=by
 funext m;unfold goodM;rw[allX];rfl
theorem SX_valid(n c:Nat)(hn:n≤5):(SX n c).Valid:=by
 refine⟨TX_valid,by simp[SX],by simp[SX],hn,fun i hi=>?_⟩;have hi:i<n:=hi;have:i=0∨i=1∨i=2∨i=3∨i=4:=by omega
 rcases this with rfl|rfl|rfl|rfl|rfl<;>simp[SD.okB,TD.isMin,SX,TX,ix]
theorem oeX(n c:Nat)(hn:n≤5):(SX n c).oe true=0:=by
 unfold SD.oe;rw[if_neg (fun h=>h (SX_valid n c hn)),if_neg (by decide),if_neg (show¬(SX n c).t.all=[]from allX_ne)]
def RX(n:Nat)(i:Nat):Nat:=if i<n then [2,1,2,3,0].getD i 0 else 0
def okX(le mo fr to:Int)(p:Nat):Bool:=(List.range (to-fr).toNat).all fun k=>decide (le≤hulLo (a98 TX (fr+(k:Nat)) p) allL 3)&&decide (hulHi (b98 TX (fr+(k:Nat)) p) allL 3≤mo)
theorem okX_is(le mo fr to:Int)(p:Nat):((List.range (to-fr).toNat).all fun k=>goodM TX p le mo (fr+(k:Nat)))=okX le mo fr to p:=by
 unfold okX;rw[gX]
theorem rm_is(n c i:Nat):(SX n c).rightM i=maskO (okX ((SX n c).le i) ((SX n c).mo i) ((SX n c).fr i) ((SX n c).to i)) 2:=by
 have h: ∀p,(SX n c).okS i p=okX ((SX n c).le i) ((SX n c).mo i) ((SX n c).fr i) ((SX n c).to i) p:=fun p=>okX_is _ _ _ _ p
 unfold SD.rightM;rw[funext h];rfl
theorem rmX0(n c:Nat):(SX n c).rightM 0=2:=(rm_is n c 0).trans (by kernel_rfl)
theorem rmX1(n c:Nat):(SX n c).rightM 1=1:=(rm_is n c 1).trans (by kernel_rfl)
theorem rmX2(n c:Nat):(SX n c).rightM 2=2:=(rm_is n c 2).trans (by kernel_rfl)
theorem rmX3(n c:Nat):(SX n c).rightM 3=3:=(rm_is n c 3).trans (by kernel_rfl)
theorem rmX4(n c:Nat):(SX n c).rightM 4=0:=(rm_is n c 4).trans (by kernel_rfl)
theorem rmX(n c:Nat)(i:Nat)(hi:i<5):(SX n c).rightM i=[2,1,2,3,0].getD i 0:=by
 have:i=0∨i=1∨i=2∨i=3∨i=4:=by omega
 rcases this with h|h|h|h|h
 ·rw[h,rmX0];rfl
 ·rw[h,rmX1];rfl
 ·rw[h,rmX2];rfl
 ·rw[h,rmX3];rfl
 ·rw[h,rmX4];rfl
theorem RMX(n c:Nat)(hn:n≤5):(SX n c).RM=RX n:=by
 funext i;unfold SD.RM RX;by_cases h:i<n
 ·rw[if_pos h,if_pos (show i<(SX n c).n from h),rmX n c i (by omega)]
 ·rw[if_neg h,if_neg (show¬i<(SX n c).n from h)]
/-! ### What is told -/
theorem isPlX(c:Nat)(p:Nat→Int)(h:(List.range 4).all (fun k=>decide (0≤p k)&&decide (p k≤1))=true):isPl (SX 4 c) 4 p=true:=by
 have hb: ∀k,k<4→badP (SX 4 c) p k=false:=fun k hk=>by
  simp only[List.all_eq_true,List.mem_range,Bool.and_eq_true,decide_eq_true_iff]at h;have h2:=h k hk;show(!(decide (0≤p k)&&decide (p k≤((2:Nat):Int)-1)))=false;rw[decide_eq_true h2.1,decide_eq_true (show p k≤((2:Nat):Int)-1 by omega)];rfl
 have ha:(List.range 4).any (badP (SX 4 c) p)=false:=by
  rw[List.any_eq_false];intro k hk;rw[hb k (List.mem_range.1 hk)];exact Bool.noConfusion
 unfold isPl;rw[ha];rfl
theorem aX3(c:Nat):(SX 4 c).rightT 3=⟨3,0⟩:=by
 have e:inB 3 0 (((SX 4 c).n:Nat)-1)=true:=by simp[inB,SX]
 unfold SD.rightT;rw[e,oeX 4 c (by omega),if_pos rfl];show(⟨((SX 4 c).rightM 3:Nat),0⟩:ToldT Int)=_;rw[rmX 4 c 3 (by omega)];rfl
theorem aXc(c:Nat):(SX 4 c).countT=(2,0):=by
 unfold SD.countT;rw[oeX 4 c (by omega),if_pos rfl,RMX 4 c (by omega)];have:(plansL (SX 4 c) (RX 4) (sbR (SX 4 c) (RX 4)).ord (2^(SX 4 c).n-1)).length=2:=by kernel_rfl
 rw[this];rfl
theorem aXf(c:Nat):(SX 5 c).firstT=(4,0):=by
 unfold SD.firstT;rw[oeX 5 c (by omega),if_pos rfl];have h:(SX 5 c).canP=fun S=>!(plansL (SX 5 c) (RX 5) (sbR (SX 5 c) (RX 5)).ord S).isEmpty:=by
  funext S;unfold SD.canP;rw[RMX 5 c (by omega)]
 have q1:(SX 5 c).canP (2^1-1)=true:=by rw[h];kernel_rfl
 have q2:(SX 5 c).canP (2^2-1)=true:=by rw[h];kernel_rfl
 have q3:(SX 5 c).canP (2^3-1)=true:=by rw[h];kernel_rfl
 have q4:(SX 5 c).canP (2^4-1)=true:=by rw[h];kernel_rfl
 have q5:(SX 5 c).canP (2^5-1)=false:=by rw[h];kernel_rfl
 show(SX 5 c).fstF 5 0=_;simp only[SD.fstF,q1,q2,q3,q4,q5];rfl
theorem aXm(c:Nat)(p:Nat→Int)(hp:(List.range 4).all (fun k=>decide (0≤p k)&&decide (p k≤1))=true):(SX 4 c).movT 4 p=movesL (movedS (SX 4 c) (sbR (SX 4 c) (RX 4)).ord p) 4:=by
 unfold SD.movT;rw[isPlX c p hp,oeX 4 c (by omega),if_pos rfl,RMX 4 c (by omega)];rfl
theorem aXk(c:Nat)(p:Nat→Int)(hp:(List.range 4).all (fun k=>decide (0≤p k)&&decide (p k≤1))=true):(SX 4 c).chkT 4 p=fstB (chkS (SX 4 c) (RX 4) (sbR (SX 4 c) (RX 4)).ord p) 5 0:=by
 unfold SD.chkT;rw[isPlX c p hp,oeX 4 c (by omega),if_pos rfl,RMX 4 c (by omega)]
theorem aXb(c:Nat):((SX 4 c).bestW).map (fun x=>((List.range 4).map x.1,x.2))=some ([1,0,1,1],1):=by
 unfold SD.bestW;rw[RMX 4 c (by omega)];kernel_rfl
theorem aXh(c:Nat):((SX 4 c).bestN).map (fun x=>((List.range 4).map x.1,x.2))=some ([1,0,1,0],1):=by
 unfold SD.bestN;rw[RMX 4 c (by omega)];kernel_rfl
end Go.Proofs.YthnhlkflkidemaaGreatDoor
/-
 Contracts: the serves of the document's examples. (--fast)
-/
namespace Go.Proofs.YthnhlkflkidemaaGreatDoor
open Go Go.Sy Srv
set_option maxRecDepth 100000
set_option maxHeartbeats 4000000
attribute [local irreducible] CallP CodeP Ent YieldP
set_option maxHeartbeats 16000000
theorem t44(a b:Int):CallP Tryz.prog 44 [.int .i64 a,.int .i64 b] [] (Ret (.agg [.int .i64 a,.int .i64 b]) []):=by
 refine callR (E:=E) E_ok Tryz.func44 rfl ?_;(repeat' first|exact aq|refine aN ?_ ?_|exact tU);all_goals try exact dd
 exact ent_tau [] ⟨fPp,tMm,rfl⟩
def rowsX(n c:Nat):SHeap:=[some (.arr 3 3 3 (row3 TX.mi TX.mlo TX.mhi)),some (.arr 2 2 2 (row2 TX.slo TX.shi)),some (.arr 4 1 1 (row4 TX.lp TX.lm TX.llo TX.lhi)),some (.arr 5 n c (SX n c).F)]
theorem t60_f:CallP Tryz.prog 60 [.bool false] [] (Ret (.agg (svd (SX 4 4) 3)) (rowsX 4 4)):=by
 refine callR (E:=E) E_ok Tryz.func60 rfl ?_;(repeat' first|exact aq|refine aN ?_ ?_|exact tU);all_goals try exact dd
 refine(t44 10 12).use [] ?_ trivial rfl;(repeat' first|exact aq|refine aN ?_ ?_|exact tU);all_goals try exact dd
 refine(t44 40 41).use [] ?_ trivial rfl;(repeat' first|exact aq|refine aN ?_ ?_|exact tU);all_goals try exact dd
 refine(t44 12 12).use [] ?_ trivial rfl;(repeat' first|exact aq|refine aN ?_ ?_|exact tU);all_goals try exact dd
 refine(t44 5 6).use [] ?_ trivial rfl;(repeat' first|exact aq|refine aN ?_ ?_|exact tU);all_goals try exact dd
 refine(t44 20 20).use [] ?_ trivial rfl;(repeat' first|exact aq|refine aN ?_ ?_|exact tU);all_goals try exact dd
 refine(t44 6 6).use [] ?_ trivial rfl;(repeat' first|exact aq|refine aN ?_ ?_|exact tU);all_goals try exact dd
 refine(t44 2 3).use [] ?_ trivial rfl;all_goals(repeat' first|exact aq|refine aN ?_ ?_|exact tU)
 all_goals try exact dd
 all_goals intro h1
 all_goals first|exact absurd h1 (by decide)|(cases h1;done)|skip
 all_goals(repeat' first|exact aq|refine aN ?_ ?_|exact tU)
 all_goals try exact dd
 refine Ent.trans (entV (v':= .agg [.osl true 1 3 3 3,.osl true 2 2 2 2,.osl true 3 4 1 1,.int .i64 2,.int .i64 3,.int .i64 1,.osl true 4 5 4 4]) (fun η=>by simp[den,denL,ofVal])) ?_;refine ent_tau [1,2,3,4] ⟨?_,tMm,rfl⟩;(repeat' first|exact fp|refine aN ?_ ?_)
 ·exact fun k hk=>by rcases lt3 hk with rfl|rfl|rfl<;>rfl
 ·exact fun k hk=>by rcases lt2 hk with rfl|rfl<;>rfl
 ·exact fun k hk=>by
   obtain rfl:k=0:=Nat.lt_one_iff.1 hk;rfl
 ·exact fun k hk=>match k,hk with|0,_=>rfl|1,_=>rfl|2,_=>rfl|3,_=>rfl
theorem t60_t:CallP Tryz.prog 60 [.bool true] [] (fun ce h'=> ∃c,5≤c∧c≤9223372036854775807∧ce= .ret (.agg (svd (SX 5 c) 3))∧h'=rowsX 5 c):=by
 refine callK (E:=E) E_ok Tryz.func60 rfl ?_;(repeat' first|exact aq|refine aN ?_ ?_|exact tU);all_goals try exact dd
 refine(t44 10 12).use [] ?_ trivial rfl;(repeat' first|exact aq|refine aN ?_ ?_|exact tU);all_goals try exact dd
 refine(t44 40 41).use [] ?_ trivial rfl;(repeat' first|exact aq|refine aN ?_ ?_|exact tU);all_goals try exact dd
 refine(t44 12 12).use [] ?_ trivial rfl;(repeat' first|exact aq|refine aN ?_ ?_|exact tU);all_goals try exact dd
 refine(t44 5 6).use [] ?_ trivial rfl;(repeat' first|exact aq|refine aN ?_ ?_|exact tU);all_goals try exact dd
 refine(t44 20 20).use [] ?_ trivial rfl;(repeat' first|exact aq|refine aN ?_ ?_|exact tU);all_goals try exact dd
 refine(t44 6 6).use [] ?_ trivial rfl;(repeat' first|exact aq|refine aN ?_ ?_|exact tU);all_goals try exact dd
 refine(t44 2 3).use [] ?_ trivial rfl;all_goals(repeat' first|exact aq|refine aN ?_ ?_|exact tU)
 all_goals try exact dd
 all_goals intro h1
 all_goals first|exact absurd h1 (by decide)|(cases h1;done)|skip
 all_goals(repeat' first|exact aq|refine aN ?_ ?_|exact tU)
 all_goals try exact dd
 all_goals first|exact Nat.le_of_ble_eq_true rfl|(show(4+1)*40≤140737488355328;decide)|exact(fun k hk=>by obtain rfl:k=0:=Nat.lt_one_iff.1 hk;rfl)|skip
 intro c hc1 hc2;(repeat' first|exact aq|refine aN ?_ ?_|exact tU);all_goals try exact dd
 refine⟨_,_,⟨c,hc1,hc2,rfl,rfl⟩,?_⟩;refine Ent.trans (entV (v':= .agg [.osl true 1 3 3 3,.osl true 2 2 2 2,.osl true 3 4 1 1,.int .i64 2,.int .i64 3,.int .i64 1,.osl true 7 5 5 c]) (fun η=>by simp[den,denL,ofVal])) ?_;refine ent_tau [1,2,3,7] ⟨?_,tMm,rfl⟩;(repeat' first|exact fp|refine aN ?_ ?_)
 ·exact fun k hk=>by rcases lt3 hk with rfl|rfl|rfl<;>rfl
 ·exact fun k hk=>by rcases lt2 hk with rfl|rfl<;>rfl
 ·exact fun k hk=>by
   obtain rfl:k=0:=Nat.lt_one_iff.1 hk;rfl
 ·exact fun k hk=>match k,hk with|0,_=>rfl|1,_=>rfl|2,_=>rfl|3,_=>rfl|4,_=>rfl
open Go Go.Sy Srv Kuhn
def HT:SHeap:=[some (.glob 1 [.int .i64 0,.int .i64 1,.int .i64 3,.int .i64 6,.int .i64 9,.int .i64 11,.int .i64 12]),some db]
theorem pre_slice{P:Program}{f:Nat}{a:SV}{i m cp:Nat}{h:SHeap}{K:CE→SHeap→Prop}(c:CallP P f [a,.osl true i 1 m cp] h K):CallP P f [a,.slice i 1 0 m cp] h K:=
 CallP.pre (args':=[a,.osl true i 1 m cp]) (h':=h) (entTm (T:=argT [a,.slice i 1 0 m cp]) (T':=argT [a,.osl true i 1 m cp]) ⟨rfl,fun _=>rfl,rfl,fun η=>by simp[den],trivial⟩) c
theorem w16:CallP Tryz.prog 16 [SA (SX 4 4),.int .i64 3] (HS (SX 4 4)) (Ret (.tup [.int .i64 3,.int .i64 0]) (HS (SX 4 4))):=by
 have h:=t16 (SX 4 4) 3;rwa [aX3]at h
theorem w20:CallP Tryz.prog 20 [SA (SX 4 4)] (HS (SX 4 4)) (Ret (.tup [.int .i64 2,.int .i64 0]) (HS (SX 4 4))):=by
 have h:=t20 (SX 4 4);rwa [aXc]at h
theorem w18:CallP Tryz.prog 18 [SA (SX 4 4),.slice 6 1 0 4 4] (HSp (SX 4 4) 4 (ix [1,0,0,1])) (Ret (.tup [.int .i64 2,.int .i64 1,.int .i64 0]) (HSp (SX 4 4) 4 (ix [1,0,0,1]))):=by
 have h:=pre_slice (t18 (SX 4 4) true 4 4 (ix [1,0,0,1]) (by decide));have e:fstB (chkS (SX 4 4) (RX 4) (sbR (SX 4 4) (RX 4)).ord (ix [1,0,0,1])) 5 0=(2,1,0):=by kernel_rfl
 rw[aXk 4 (ix [1,0,0,1]) (by decide),e]at h;exact h
theorem w22:CallP Tryz.prog 22 [SA (SX 4 4),.slice 6 1 0 4 4] (HSp (SX 4 4) 4 (ix [1,0,1,0])) (fun ce h'=> ∃cap w,2≤cap∧cap≤9223372036854775807∧w 0=(11,0,2,3)∧w 1=(91,1,2,3)∧ce= .ret (.tup [.slice 7 4 0 2 cap,.int .i64 0])∧h'=HSp (SX 4 4) 4 (ix [1,0,1,0])++[some (.arr 4 2 cap (rowM w))]):=by
 have h:=pre_slice (t22 (SX 4 4) true 4 4 (ix [1,0,1,0]) (by decide));have e:movesL (movedS (SX 4 4) (sbR (SX 4 4) (RX 4)).ord (ix [1,0,1,0])) 4=[(11,0,2,3),(91,1,2,3)]:=by kernel_rfl
 rw[aXm 4 (ix [1,0,1,0]) (by decide),e,isPlX 4 (ix [1,0,1,0]) (by decide),oeX 4 4 (by decide)]at h;refine h.mono ?_;rintro ce h' (⟨h0,_⟩|⟨_,cap,w,h1,h2,h3,h4,h5⟩)
 ·cases h0
 ·exact⟨cap,w,h1,h2,(h3 0 (by decide)).symm,(h3 1 (by decide)).symm,h4,h5⟩
theorem wG{F:Option ((Nat→Int)×Int)}{a b c d k:Int}(h:F.map (fun x=>((List.range 4).map x.1,x.2))=some ([a,b,c,d],k)){ce:CE}{h':SHeap}(hk:KG (SX 4 4) F ce h'):
  ∃q,(q 0=a∧q 1=b∧q 2=c∧q 3=d)∧ce= .ret (.tup [.int .i64 k,.slice 6 1 0 4 4,.int .i64 0])∧h'=HS (SX 4 4)++[some (.arr 1 4 4 (rowI q))]:=by
 have hg:(SX 4 4).got F=F:=if_pos (oeX 4 4 (by decide));rcases hk with⟨h0,_,_⟩|⟨q,k',h0,h1,h2⟩
 ·rw[hg]at h0;rw[h0]at h;cases h
 ·rw[hg]at h0;rw[h0]at h;have h:=Option.some.inj h;have e2:k'=k:=(Prod.mk.inj h).2;have e1:[q 0,q 1,q 2,q 3]=[a,b,c,d]:=(Prod.mk.inj h).1;subst e2;simp only[List.cons.injEq,and_true]at e1;exact⟨q,e1,h1,h2⟩
theorem w25:CallP Tryz.prog 25 [SA (SX 4 4)] (HS (SX 4 4)) (fun ce h'=> ∃q,(q 0=1∧q 1=0∧q 2=1∧q 3=1)∧ce= .ret (.tup [.int .i64 1,.slice 6 1 0 4 4,.int .i64 0])∧h'=HS (SX 4 4)++[some (.arr 1 4 4 (rowI q))]):=
 (t25 (SX 4 4)).mono fun ce h'=>wG (aXb 4)
theorem w27:CallP Tryz.prog 27 [SA (SX 4 4)] (HS (SX 4 4)) (fun ce h'=> ∃q,(q 0=1∧q 1=0∧q 2=1∧q 3=0)∧ce= .ret (.tup [.int .i64 1,.slice 6 1 0 4 4,.int .i64 0])∧h'=HS (SX 4 4)++[some (.arr 1 4 4 (rowI q))]):=
 (t27 (SX 4 4)).mono fun ce h'=>wG (aXh 4)
theorem w30(c:Nat):CallP Tryz.prog 30 [SA (SX 5 c)] (HS (SX 5 c)) (Ret (.tup [.int .i64 4,.int .i64 0]) (HS (SX 5 c))):=by
 have h:=t30 (SX 5 c);rwa [aXf]at h
def drpG(f:Nat→Bool)(n m:Nat):Nat→Nat→Option Nat
 |0,_=>none
 |r+1,S=>match decide (pop S=m)&&f (restS n S)with
  |true=>some S
  |false=>drpG f n m r (S+1)
def drpH(f:Nat→Bool)(n:Nat):Nat→Nat→Int
 |0,_=>0
 |r+1,m=>match drpG f n m (2^n) 0 with
  |some S=>((S:Nat):Int)
  |none=>drpH f n r (m+1)
theorem drpS_is(s:SD)(m:Nat): ∀r S,s.drpS m r S=drpG s.canP s.n m r S
 |0,_=>rfl
 |r+1,S=>by
  rw[SD.drpS,drpG,drpS_is s m r];rfl
theorem drpF_is(s:SD): ∀r m,s.drpF r m=drpH s.canP s.n r m
 |0,_=>rfl
 |r+1,m=>by
  rw[SD.drpF,drpH,drpS_is,drpF_is s r];rfl
theorem aXd(c:Nat):(SX 5 c).dropT=(16,0):=by
 unfold SD.dropT;rw[oeX 5 c (by omega),if_pos rfl];have h:(SX 5 c).canP=fun S=>!(plansL (SX 5 c) (RX 5) (sbR (SX 5 c) (RX 5)).ord S).isEmpty:=by
  funext S;unfold SD.canP;rw[RMX 5 c (by omega)]
 have e:drpH (fun S=>!(plansL (SX 5 c) (RX 5) (sbR (SX 5 c) (RX 5)).ord S).isEmpty) 5 6 0=16:=by kernel_rfl
 rw[drpF_is,h];exact congrArg (·,(0:Int)) e
theorem w32(c:Nat):CallP Tryz.prog 32 [SA (SX 5 c)] (HS (SX 5 c)) (Ret (.tup [.int .i64 16,.int .i64 0]) (HS (SX 5 c))):=by
 have h:=t32 (SX 5 c);rwa [aXd]at h
theorem t15:CallP Tryz.prog 15 [] HT (Ret (.bool true) HT):=by
 refine callR (E:=E) E_ok Tryz.func15 rfl ?_;(repeat' first|exact aq|refine aN ?_ ?_|exact tU);all_goals try exact dd
 refine t60_f.use [] ?_ trivial rfl;(repeat' first|exact aq|refine aN ?_ ?_|exact tU);all_goals try exact dd
 refine w16.use [2,3,4,0,1,5] ?_ (fPp) rfl;(repeat' first|exact aq|refine aN ?_ ?_|exact tU);all_goals try exact dd
 refine w18.use [2,3,4,0,1,5,7] ?_ ?_ rfl
 ·(repeat' first|exact aq|refine aN ?_ ?_|exact tU);all_goals try exact dd
  refine w20.use [2,3,4,0,1,5] ?_ (fPp) rfl;(repeat' first|exact aq|refine aN ?_ ?_|exact tU);all_goals try exact dd
  refine CallP.frameH w22 [2,3,4,0,1,5,8] ?_ rfl ?_
  ·(repeat' first|exact fp|refine aN ?_ ?_)
  rintro ce h' ⟨cap,w,hc1,hc2,hw0,hw1,rfl,rfl⟩;refine⟨rfl,?_⟩;(repeat' first|exact aq|refine aN ?_ ?_|exact tU);all_goals try exact dd
  refine CallP.frameH w25 [2,3,4,0,1,5] (fPp) rfl ?_;rintro ce h' ⟨q,⟨q0,q1,q2,q3⟩,rfl,rfl⟩;refine⟨rfl,?_⟩;(repeat' first|exact aq|refine aN ?_ ?_|exact tU);all_goals try exact dd
  refine CallP.frameH w27 [2,3,4,0,1,5] (fPp) rfl ?_;rintro ce h' ⟨p,⟨p0,p1,p2,p3⟩,rfl,rfl⟩;refine⟨rfl,?_⟩;(repeat' first|exact aq|refine aN ?_ ?_|exact tU);all_goals try exact dd
  refine CallP.frameH t60_t [] trivial rfl ?_;rintro ce h' ⟨c,hc3,hc4,rfl,rfl⟩;refine⟨rfl,?_⟩;(repeat' first|exact aq|refine aN ?_ ?_|exact tU);all_goals try exact dd
  refine(w30 c).use [12,13,14,0,1,15] ?_ (fPp) rfl;(repeat' first|exact aq|refine aN ?_ ?_|exact tU);all_goals try exact dd
  refine CallP.frameH t60_t [] trivial rfl ?_;rintro ce h' ⟨c',hc5,hc6,rfl,rfl⟩;refine⟨rfl,?_⟩;(repeat' first|exact aq|refine aN ?_ ?_|exact tU);all_goals try exact dd
  refine(w32 c').use [16,17,18,0,1,19] ?_ (fPp) rfl;(repeat' first|exact aq|refine aN ?_ ?_|exact tU);all_goals try exact dd
  have cM:=t24ss 2 2 cap 2 w (fun k=>[(11,0,2,3),(91,1,2,3)].getD k zM) (by decide);rw[show eqM 2 2 w (fun k=>[(11,0,2,3),(91,1,2,3)].getD k zM)=true from eqM_iff.2 ⟨rfl,fun k hk=>match k,hk with|0,_=>hw0|1,_=>hw1⟩]at cM;have cQ:=t29ss 4 4 4 4 q (ix [1,0,1,1]) (by decide);rw[show eqI 4 4 q (ix [1,0,1,1])=true from eqI_iff.2 ⟨rfl,fun k hk=>match k,hk with|0,_=>q0|1,_=>q1|2,_=>q2|3,_=>q3⟩]at cQ;have cP:=t29ss 4 4 4 4 p (ix [1,0,1,0]) (by decide);rw[show eqI 4 4 p (ix [1,0,1,0])=true from eqI_iff.2 ⟨rfl,fun k hk=>match k,hk with|0,_=>p0|1,_=>p1|2,_=>p2|3,_=>p3⟩]at cP;all_goals(repeat' first|exact aq|refine aN ?_ ?_|exact tU)
  all_goals try exact dd
  all_goals intro g1
  all_goals first|exact absurd g1 (by decide)|(cases g1;done)|skip
  refine(t44 2 3).use [] ?_ trivial rfl;all_goals(repeat' first|exact aq|refine aN ?_ ?_|exact tU)
  all_goals try exact dd
  all_goals intro g2
  all_goals first|exact absurd g2 (by decide)|(cases g2;done)|skip
  refine(t44 2 3).use [] ?_ trivial rfl;all_goals(repeat' first|exact aq|refine aN ?_ ?_|exact tU)
  all_goals try exact dd
  all_goals intro g3
  all_goals first|exact absurd g3 (by decide)|(cases g3;done)|skip
  all_goals(repeat' first|exact aq|refine aN ?_ ?_|exact tU)
  all_goals try exact dd
  all_goals intro g4
  all_goals first|exact absurd g4 (by decide)|(cases g4;done)|skip
  refine cM.use [9,20] ?_ ?_ rfl
  ·all_goals(repeat' first|exact aq|refine aN ?_ ?_|exact tU)
   all_goals try exact dd
   all_goals intro g5
   all_goals first|exact absurd g5 (by decide)|(cases g5;done)|skip
   all_goals(repeat' first|exact aq|refine aN ?_ ?_|exact tU)
   all_goals try exact dd
   all_goals intro g6
   all_goals first|exact absurd g6 (by decide)|(cases g6;done)|skip
   all_goals(repeat' first|exact aq|refine aN ?_ ?_|exact tU)
   all_goals try exact dd
   all_goals intro g7
   all_goals first|exact absurd g7 (by decide)|(cases g7;done)|skip
   refine cQ.use [10,21] ?_ ?_ rfl
   ·all_goals(repeat' first|exact aq|refine aN ?_ ?_|exact tU)
    all_goals try exact dd
    all_goals intro g8
    all_goals first|exact absurd g8 (by decide)|(cases g8;done)|skip
    all_goals(repeat' first|exact aq|refine aN ?_ ?_|exact tU)
    all_goals try exact dd
    all_goals intro g9
    all_goals first|exact absurd g9 (by decide)|(cases g9;done)|skip
    refine cP.use [11,22] ?_ ?_ rfl
    ·all_goals(repeat' first|exact aq|refine aN ?_ ?_|exact tU)
     all_goals try exact dd
     exact ent_tau [0,1] ⟨fPp,tMm,rfl⟩
    ·(repeat' first|exact fp|refine aN ?_ ?_)
   ·(repeat' first|exact fp|refine aN ?_ ?_)
  ·(repeat' first|exact fp|refine aN ?_ ?_);exact fun k hk=>match k,hk with|0,_=>rfl|1,_=>rfl
 ·(repeat' first|exact fp|refine aN ?_ ?_)
end Go.Proofs.YthnhlkflkidemaaGreatDoor
