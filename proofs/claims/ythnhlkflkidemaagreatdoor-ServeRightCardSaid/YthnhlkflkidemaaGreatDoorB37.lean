/-
  Parts: V30, V31, V28, V41.
-/
import Derived.Test.YthnhlkflkidemaaGreatDoorB26
import Derived.Test.YthnhlkflkidemaaGreatDoorB33
import Derived.Test.YthnhlkflkidemaaGreatDoorB25
import Derived.Test.YthnhlkflkidemaaGreatDoorB30
import Derived.Test.YthnhlkflkidemaaGreatDoorB27
import Derived.Test.YthnhlkflkidemaaGreatDoorB35
import Derived.Test.YthnhlkflkidemaaGreatDoorB32
import Derived.Test.YthnhlkflkidemaaGreatDoorB31
import Derived.Test.YthnhlkflkidemaaGreatDoorB36
set_option linter.unusedVariables false
set_option linter.unusedSimpArgs false
/-
 How many plans are right: from some bathers on, what is known by heart. (--fast)
-/
namespace Go.Proofs.YthnhlkflkidemaaGreatDoor
open Go Go.Sy Srv
set_option maxRecDepth 100000
set_option maxHeartbeats 4000000
attribute [local irreducible] CallP CodeP Ent YieldP
set_option maxHeartbeats 16000000
def cntA(s:SD)(R:Nat→Nat)(L:List Nat)(d:Nat)(st:Hst):Nat:=(sbR s R).cntL allB (L.drop d) st
def MI(s:SD)(R:Nat→Nat)(L:List Nat)(M:GL):Prop:= ∀(d:Nat) (st:Hst) (v:List Int),(gget M (((d:Nat):Int)::stI st)).map (·.2)=some v→v=[((cntA s R L d st:Nat):Int)]
def HK(s:SD)(R o:Nat→Nat)(bo:Bool)(co:Nat)(M:GL):SHeap:=
 [some .dead,some .dead,some .dead,some (.roa 5 s.n s.F),some (.roc (bcv s R 3 (.osl bo 5 1 s.n co))),some (.roa 1 s.n (rowN o)),some (.roc [.ptr 4 0]),some (.roc [.map 8]),some (.gmap g111 M),some (.roc [.fn (.func 73) [] [.ptr 6 0,.ptr 7 0,.ptr 9 0]])]
theorem stI_at{st st':Hst}(h:stI st=stI st'): ∀k,k<4→st k=st' k:=fun k hk=>by
 unfold stI at h;simp only[List.cons.injEq,and_true]at h;obtain⟨a,b,c,d,e,f,g,i⟩:=h;match k,hk with
 |0,_=>exact Prod.ext a b
 |1,_=>exact Prod.ext c d
 |2,_=>exact Prod.ext e f
 |3,_=>exact Prod.ext g i
theorem OrdL.mem{s:SD}{L:List Nat}{o:Nat→Nat}{bo:Bool}{co:Nat}(h:OrdL s L o bo co){i:Nat}(hi:i∈L):i<s.n:=by
 obtain⟨k,hk,rfl⟩:=List.getElem_of_mem hi;have h2:=h.get k (by rw[←h.len];exact hk);rw[List.getD_eq_getElem?_getD,List.getElem?_eq_getElem hk,Option.getD_some]at h2;rw[h2];exact h.lt k (by rw[←h.len];exact hk)
theorem cntA_congr{s:SD}{R o:Nat→Nat}{bo:Bool}{co:Nat}(hs:s.Ok R){L:List Nat}(hL:OrdL s L o bo co)(d:Nat){st st':Hst}(h:stI st=stI st'):cntA s R L d st=cntA s R L d st':=by
 refine cntL_congr (sbR s R) allB 4 (fun i hi=>?_) (L.drop d) (fun i hi=>hL.mem (List.mem_of_mem_drop hi)) st st' (stI_at h);have:=hs.hut i hi;show(s.hut i).toNat<4;omega
theorem cntA_le{s:SD}{R o:Nat→Nat}{bo:Bool}{co:Nat}(hs:s.Ok R){L:List Nat}(hL:OrdL s L o bo co)(d:Nat)(st:Hst):cntA s R L d st≤1024:=by
 have h1:=cntL_le (sbR s R) allB hs.w.1 (L.drop d) st;have h2:(sbR s R).w^(L.drop d).length≤4^(L.drop d).length:=Nat.pow_le_pow_left hs.w.2 _;have h3:4^(L.drop d).length≤4^5:=Nat.pow_le_pow_right (by decide) (by rw[List.length_drop,hL.len];have:=hs.n5;omega);have h4:(4:Nat)^5=1024:=rfl;unfold cntA;omega
theorem MI.set{s:SD}{R o:Nat→Nat}{bo:Bool}{co:Nat}(hs:s.Ok R){L:List Nat}(hL:OrdL s L o bo co){M:GL}(h:MI s R L M)(d:Nat)(st:Hst):MI s R L (gset M (((d:Nat):Int)::stI st) [((cntA s R L d st:Nat):Int)]):=by
 intro d' st' v hv;rw[gget_gset]at hv;split at hv
 ·rename_i e;injection e with e1 e2;have e1:d'=d:=by omega
  subst e1;rw[cntA_congr hs hL d' e2];exact(Option.some.inj hv).symm
 ·exact h d' st' v hv
theorem st_get9(st:Hst)(d:Int){h:Int}(hh:0≤h∧h≤3):((d::stI st).getD (h.toNat*2+(0+1+0)) 0,(d::stI st).getD (h.toNat*2+(0+1+1)) 0)=st h.toNat:=by
 obtain⟨k,rfl⟩: ∃k:Nat,h=k:=⟨h.toNat,by omega⟩;have:k<4:=by omega
 match k,this with
 |0,_|1,_|2,_|3,_=>rfl
theorem st_set9(st:Hst)(d:Nat){h:Int}(hh:0≤h∧h≤3)(x y:Int):SV.int .i64 ((d+1:Nat):Int)::stV (upS st h.toNat (x,y))=(List.range 9).map fun m=>SV.int .i64 (if h.toNat*2+(0+1)≤m∧m<h.toNat*2+(0+1)+[x,y].length then [x,y].getD (m-(h.toNat*2+(0+1))) 0 else((((d:Nat):Int)+1)::stI st).getD m 0):=by
 obtain⟨k,rfl⟩: ∃k:Nat,h=k:=⟨h.toNat,by omega⟩;have:k<4:=by omega
 match k,this with
 |0,_|1,_|2,_|3,_=>rfl
def cntF(s:SD)(R:Nat→Nat)(L:List Nat)(d i:Nat)(st:Hst)(k:Nat):Nat:=if brkS s R i k (st (s.hut i).toNat)=0 then cntA s R L (d+1) (upS st (s.hut i).toNat ((k:Int),s.to i))else 0
theorem cntA_step{s:SD}{R o:Nat→Nat}{bo:Bool}{co:Nat}{L:List Nat}(hL:OrdL s L o bo co){d:Nat}(hd:d<s.n)(st:Hst):cntA s R L d st=sumN (cntF s R L d (o d) st) s.t.nS:=by
 unfold cntA;rw[hL.drop hd];show(if allB (o d)=true then _ else _)=_;rw[if_pos (show allB (o d)=true from rfl)];refine sumN_congr _ fun k hk=>?_
 rw[brk_sb];rfl
theorem cntF_le{s:SD}{R o:Nat→Nat}{bo:Bool}{co:Nat}(hs:s.Ok R){L:List Nat}(hL:OrdL s L o bo co)(d i:Nat)(st:Hst)(k:Nat):sumN (cntF s R L d i st) k≤k*1024:=by
 rw[←sumN_const];refine sumN_le k fun j _=>?_
 unfold cntF;split
 ·exact cntA_le hs hL _ _
 ·exact Nat.zero_le _
theorem t73(s:SD)(R o:Nat→Nat)(bo:Bool)(co:Nat)(hs:s.Ok R)(L:List Nat)(hL:OrdL s L o bo co): ∀(r d:Nat) (st:Hst) (M:GL),d+r=s.n→HstOk st→MI s R L M→
  CallP Tryz.prog 73 [.agg (.int .i64 (d:Nat)::stV st),.ptr 6 0,.ptr 7 0,.ptr 9 0] (HK s R o bo co M) (fun ce h'=> ∃M',MI s R L M'∧ce= .ret (.int .i64 (cntA s R L d st:Nat))∧h'=HK s R o bo co M'):=by
 intro r
 induction r with
 |zero=>
  intro d st M hd hst hM
  obtain rfl:d=s.n:=by omega
  have hl:cntA s R L s.n st=1:=by
   unfold cntA
   rw[List.drop_eq_nil_of_le (by rw[hL.len];exact Nat.le_refl _)]
   rfl
  rw[hl]
  have hn5:=hs.n5
  refine callK (E:=E) E_ok Tryz.func73 rfl ?_
  (repeat' first|exact aq|refine aN ?_ ?_|exact tU)
  all_goals try exact dd
  refine drawP E_ok [10] pl73_1 (by kernel_rfl) ?_
  (repeat' first|exact aq|refine aN ?_ ?_|exact tU)
  all_goals try exact dd
  ·intro hc
   (repeat' first|exact aq|refine aN ?_ ?_|exact tU)
   all_goals try exact dd
   refine⟨_,_,⟨M,hM,rfl,rfl⟩,?_⟩
   exact ent_tau [0,1,2,3,4,5,6,7,8,9] ⟨fPp,tMm,rfl⟩
  ·intro hc
   exact absurd rfl (of_decide_eq_false hc)
 |succ r ih=>
  intro d st M hd hst hM
  have hdn:d<s.n:=by omega
  have hin:=hL.lt d hdn
  have hcs:=cntA_step (R:=R) hL hdn st
  obtain⟨i,hi⟩: ∃i,o d=i:=⟨_,rfl⟩
  rw[hi]at hcs
  have ed:=z1 d
  have ei:=z1 i
  have hn5:=hs.n5
  refine callK (E:=E) E_ok Tryz.func73 rfl ?_
  (repeat' first|exact aq|refine aN ?_ ?_|exact tU)
  all_goals try exact dd
  refine drawP E_ok [10] pl73_1 (by kernel_rfl) ?_
  (repeat' first|exact aq|refine aN ?_ ?_|exact tU)
  all_goals try exact dd
  ·intro hc
   exact absurd (of_decide_eq_true hc) (by omega)
  ·intro hc
   (repeat' first|exact aq|refine aN ?_ ?_|exact tU)
   all_goals try exact dd
   intro v hv
   (repeat' first|exact aq|refine aN ?_ ?_|exact tU)
   all_goals try exact dd
   ·intro hx
    replace hx:ghas M (((d:Nat):Int)::stI st)=true:=hx
    rw[ghas_of]at hx
    obtain⟨w,hw⟩:=Option.isSome_iff_exists.1 hx
    have hv2:=hM d st w hw
    have hv3:v=((cntA s R L d st:Nat):Int):=by
     have:=hv.trans ((gval_of hw).trans hv2)
     exact(List.cons.inj this).1
    subst hv3
    (repeat' first|exact aq|refine aN ?_ ?_|exact tU)
    all_goals try exact dd
    refine⟨_,_,⟨M,hM,rfl,rfl⟩,?_⟩
    exact ent_tau [0,1,2,3,4,5,6,7,8,9] ⟨fPp,tMm,rfl⟩
   ·intro _
    have eX:0+((o (0+((d:Nat):Int).toNat):Nat):Int).toNat=i:=by rw[ed,hi,ei]
    have hin':i<s.n:=by rw[←hi];exact hin
    have hhut:=hs.hut i hin'
    have hto:=hs.to i hin'
    (repeat' first|exact aq|refine aN ?_ ?_|exact tU)
    all_goals try exact dd
    refine drawP E_ok [10] pl73_6 (by kernel_rfl) ?_
    (repeat' first|exact aq|refine aN ?_ ?_|exact tU)
    all_goals try exact dd
    all_goals first|(refine u0 ?_;rw[eX];omega)|(refine u0 ?_;rw[ed,hi];omega)|skip
    refine loopP E_ok [1,2,3,4,8,9,51] (fun x:Nat×Int×GL=>[(10,.int .i64 x.2.1),(52,.int .i64 (x.1:Nat))])
     (fun x _=>HK s R o bo co x.2.2++[some (.cells (.int .i64 (d:Nat)::stV st)),some (.cells (s.F (0+((o (0+((d:Nat):Int).toNat):Nat):Int).toNat)))])
     (fun x=>x.1≤s.t.nS∧MI s R L x.2.2∧((sumN (cntF s R L d i st) x.1:Nat):Int)=x.2.1) (fun x=>s.t.nS-x.1) (0,0,M) ⟨Nat.zero_le _,hM,rfl⟩ ?_ ?_
    ·exact ent_tau [0,1,2,3,4,5,6,7,8,9,10,11] ⟨fPp,tMm,rfl⟩
    rintro⟨k,a,M1⟩ ⟨hk,hM1,ha⟩
    dsimp only at hk hM1 ha
    have hle:=cntF_le hs hL d i st k
    refine And.intro ?_ (And.intro (fun hc2=>?_) (fun hc2=>?_))
    ·(repeat' first|exact aq|refine aN ?_ ?_|exact tU)
    ·have hk2:k<s.t.nS:=by
      have:=of_decide_eq_true hc2
      omega
     have hw4:=hs.w
     obtain⟨B,hB⟩: ∃B,brkS s R i k (st (s.hut i).toNat)=B:=⟨_,rfl⟩
     (repeat' first|exact aq|refine aN ?_ ?_|exact tU)
     all_goals try exact dd
     refine drawP E_ok [10,11] pl73_12 (by kernel_rfl) ?_
     (repeat' first|exact aq|refine aN ?_ ?_|exact tU)
     all_goals try exact dd
     ·refine u0 ?_
      rw[eX]
      show(s.hut i).toNat*2+(0+1+2)≤9
      omega
     ·refine u0 ?_
      rw[eX]
      exact hhut.1
     ·refine u0 ?_
      rw[eX]
      show s.hut i<4
      omega
     have c68:CallP Tryz.prog 68 [.ptr 4 0,.int .i64 ((o (0+((d:Nat):Int).toNat):Nat):Int),.int .i64 (k:Nat),.agg [.int .i64 ((((d:Nat):Int)::stI st).getD ((s.hut (0+((o (0+((d:Nat):Int).toNat):Nat):Int).toNat)).toNat*2+(0+1+0)) 0),.int .i64 ((((d:Nat):Int)::stI st).getD ((s.hut (0+((o (0+((d:Nat):Int).toNat):Nat):Int).toNat)).toNat*2+(0+1+1)) 0)]] (HB s R o bo co) (Ret (.int .i64 (B:Nat)) (HB s R o bo co)):=by
      rw[eX,ed,hi,←hB]
      have hx:=t68 s R o bo co i k hin' hn5 (by omega) (hs.R16 i) ⟨by have:=hs.slo;omega,hs.shi⟩ hs.fr (st (s.hut i).toNat) (hst _).1 (hst _).2
      rw[←st_get9 st (d:Nat) hhut]at hx⊢
      exact hx
     refine c68.use [0,1,2,3,4,5] ?_ (fPp) rfl
     have hF:cntF s R L d i st k=if B=0 then cntA s R L (d+1) (upS st (s.hut i).toNat ((k:Int),s.to i))else 0:=by
      unfold cntF
      rw[hB]
     have hsum:sumN (cntF s R L d i st) (k+1)=sumN (cntF s R L d i st) k+cntF s R L d i st k:=rfl
     rw[hF]at hsum
     cases B with
     |zero=>
      rw[if_pos rfl]at hsum
      have hle2:=cntA_le (R:=R) hs hL (d+1) (upS st (s.hut i).toNat ((k:Int),s.to i))
      have c:=ih (d+1) (upS st (s.hut i).toNat ((k:Int),s.to i)) M1 (by omega) (hst.up ⟨by omega,by omega⟩ ⟨by omega,hto.2⟩) hM1
      obtain⟨C,hC⟩: ∃C,cntA s R L (d+1) (upS st (s.hut i).toNat ((k:Int),s.to i))=C:=⟨_,rfl⟩
      rw[hC]at c hle2 hsum
      all_goals(repeat' first|exact aq|refine aN ?_ ?_|exact tU)
      all_goals try exact dd
      all_goals intro hn
      all_goals first|exact absurd hn (by decide)|(cases hn;done)|skip
      (repeat' first|exact aq|refine aN ?_ ?_|exact tU)
      all_goals try exact dd
      ·rw[eX]
       show(s.hut i).toNat*2+(0+1)+2≤9
       omega
      ·refine u0 ?_
       rw[eX]
       exact hhut.1
      ·refine u0 ?_
       rw[eX]
       show s.hut i<4
       omega
      have eS:SV.int .i64 ((d+1:Nat):Int)::stV (upS st (s.hut i).toNat ((k:Int),s.to i))=(List.range 9).map fun m=>SV.int .i64 (if(s.hut (0+((o (0+((d:Nat):Int).toNat):Nat):Int).toNat)).toNat*2+(0+1)≤m∧m<(s.hut (0+((o (0+((d:Nat):Int).toNat):Nat):Int).toNat)).toNat*2+(0+1)+[(k:Int),s.to (0+((o (0+((d:Nat):Int).toNat):Nat):Int).toNat)].length then [(k:Int),s.to (0+((o (0+((d:Nat):Int).toNat):Nat):Int).toNat)].getD (m-((s.hut (0+((o (0+((d:Nat):Int).toNat):Nat):Int).toNat)).toNat*2+(0+1))) 0 else((((d:Nat):Int)+1)::stI st).getD m 0):=by
       rw[eX]
       exact st_set9 st d hhut _ _
      rw[eS]at c
      refine CallP.frameH c [0,1,2,3,4,5,6,7,8,9] (fPp) rfl ?_
      rintro ce h' ⟨M2,hM2,rfl,rfl⟩
      refine⟨rfl,?_⟩
      (repeat' first|exact aq|refine aN ?_ ?_|exact tU)
      all_goals try exact dd
      all_goals first|(show _≤a+((C:Nat):Int);omega)|(show a+((C:Nat):Int)≤_;omega)|skip
      refine⟨(k+1,a+(C:Nat),M2),⟨hk2,hM2,by show((sumN (cntF s R L d i st) (k+1):Nat):Int)=a+(C:Nat);omega⟩,by simp only;omega,?_⟩
      exact ent_tau [0,1,2,3,4,5,6,7,8,9,10,11] ⟨fPp,tMm,rfl⟩
     |succ B=>
      rw[if_neg (Nat.succ_ne_zero B)]at hsum
      all_goals(repeat' first|exact aq|refine aN ?_ ?_|exact tU)
      all_goals try exact dd
      all_goals intro hn
      all_goals first|exact absurd hn (by decide)|(cases hn;done)|skip
      (repeat' first|exact aq|refine aN ?_ ?_|exact tU)
      all_goals try exact dd
      refine⟨(k+1,a,M1),⟨hk2,hM1,by show((sumN (cntF s R L d i st) (k+1):Nat):Int)=a;omega⟩,by simp only;omega,?_⟩
      exact ent_tau [0,1,2,3,4,5,6,7,8,9,10,11] ⟨fPp,tMm,rfl⟩
    ·have hkw:k=s.t.nS:=by
      have:=of_decide_eq_false hc2
      simp only at this
      omega
     subst hkw
     obtain rfl:a=((cntA s R L d st:Nat):Int):=by rw[hcs];exact ha.symm
     (repeat' first|exact aq|refine aN ?_ ?_|exact tU)
     all_goals try exact dd
     refine⟨_,_,⟨_,hM1.set hs hL d st,rfl,rfl⟩,?_⟩
     exact ent_tau [0,1,2,3,4,5,6,7,8,9] ⟨fPp,tMm,rfl⟩
open Go Go.Sy Srv Kuhn
def HKn(s:SD)(R:Nat→Nat)(M:GL):SHeap:=
 [some .dead,some .dead,some .dead,some (.roa 5 s.n s.F),some (.roc (bcv s R 3 (.osl false 3 1 0 0))),some .dead,some (.roc [.ptr 4 0]),some (.roc [.map 8]),some (.gmap g111 M),some (.roc [.fn (.func 73) [] [.ptr 6 0,.ptr 7 0,.ptr 9 0]])]
theorem t73n(s:SD)(R:Nat→Nat)(hs:s.Ok R)(h0:s.n=0)(L:List Nat)(o:Nat→Nat)(hL:OrdL s L o false 0):
  CallP Tryz.prog 73 [.agg (.int .i64 0::stV begS),.ptr 6 0,.ptr 7 0,.ptr 9 0] (HKn s R []) (fun ce h'=> ∃M',ce= .ret (.int .i64 (cntA s R L 0 begS:Nat))∧h'=HKn s R M'):=by
 have c:=t73 s R o false 0 hs L hL 0 0 begS [] h0.symm begOk (fun _ _ _ h=>by cases h);refine CallP.ent (CallP.pre (args':=[.agg (.int .i64 0::stV begS),.ptr 6 0,.ptr 7 0,.ptr 9 0]) (h':=(HKn s R []).set 4 (some (.roc (bcv s R 3 (.osl false 10 1 s.n 0))))++[some (.roa 1 0 (rowN o))]) (Ent.trans (entRoc (i:=4) (cs:=bcv s R 3 (.osl false 3 1 0 0)) (cs':=bcv s R 3 (.osl false 10 1 s.n 0)) rfl (bcv_nil s R 3 3 10 h0)) (entAlias (i:=3) rfl 1 (rowN o))) (CallP.frameH c [0,1,2,3,4,10,6,7,8,9] ?_ rfl ?_))
 ·(repeat' first|exact fp|refine aN ?_ ?_);all_goals first|exact h0.symm|exact h0|exact fun k hk=>rfl|skip
 rintro ce h' ⟨M',hM,rfl,rfl⟩;refine⟨rfl,_,HKn s R M',⟨M',rfl,rfl⟩,?_⟩;refine Ent.trans (entRoc (i:=4) (cs:=bcv s R 3 (.osl false 10 1 s.n 0)) (cs':=bcv s R 3 (.osl false 3 1 0 0)) rfl (fun η=>(bcv_nil s R 3 3 10 h0 η).symm)) ?_;exact ent_tau [0,1,2,3,4,5,6,7,8,9] ⟨fPp,tMm,rfl⟩
noncomputable def SD.countT(s:SD):Int×Int:=if s.oe true=0 then(((plansL s s.RM (sbR s s.RM).ord (2^s.n-1)).length:Nat),0)else(0,s.oe true)
theorem cntA_all(s:SD)(R:Nat→Nat):cntA s R (sbR s R).ord 0 begS=(plansL s R (sbR s R).ord (2^s.n-1)).length:=by
 rw[plans_all];exact(go_len (sbR s R) allB (sbR s R).ord begS (fun _=>0)).symm
theorem t20(s:SD):CallP Tryz.prog 20 [SA s] (HS s) (Ret (.tup [.int .i64 (s.countT).1,.int .i64 (s.countT).2]) (HS s)):=by
 have c:=o62a s;unfold KO at c;unfold SD.countT;rw[←cntA_all];obtain⟨e,he⟩: ∃e,s.oe true=e:=⟨_,rfl⟩;rw[he]at c⊢;obtain⟨r,hr⟩: ∃r,(if e=0 then(((cntA s s.RM (sbR s s.RM).ord 0 begS:Nat):Int),(0:Int))else(0,e))=r:=⟨_,rfl⟩;rw[hr];refine callDR (E:=E) E_ok Tryz.func20 rfl (g:=61) (k1:=5) (k2:=2) Tryz.func61 isrec61 rfl ?_;(repeat' first|exact aq|refine aN ?_ ?_|exact tU);all_goals try exact dd
 refine CallP.frameH c [0,1,2,3,4,5,7] (fPp) rfl ?_;rintro ce h' (⟨h0,rfl,rfl⟩|⟨h0,⟨hv,hVt,ha⟩,hn,rfl,rfl⟩|⟨h0,⟨hv,hVt,ha⟩,hn,co,c1,c2,rfl,rfl⟩)
 ·rw[if_neg h0]at hr;subst hr;refine⟨rfl,?_⟩;(repeat' first|exact aq|refine aN ?_ ?_|exact tU);all_goals try exact dd
  all_goals(repeat' first|exact aq|refine aN ?_ ?_|exact tU)
  all_goals try exact dd
  all_goals intro h1
  all_goals first|exact absurd h1 (by decide)|(cases h1;done)|skip
  all_goals(repeat' first|exact aq|refine aN ?_ ?_|exact tU)
  all_goals try exact dd
  all_goals(repeat' first|exact aq|refine aN ?_ ?_|exact tU)
  all_goals try exact dd
  all_goals intro h2
  all_goals first|exact absurd h2 (by decide)|(cases h2;done)|skip
  all_goals(repeat' first|exact aq|refine aN ?_ ?_|exact tU)
  all_goals try exact dd
  refine⟨_,_,⟨rfl,rfl⟩,?_⟩;exact ent_tau [0,1,2,3,4,5] ⟨fPp,tMm,rfl⟩
 ·rw[if_pos h0]at hr;subst h0;have hok:=hv.okM;have hn5:=hv.2.2.2.1;have c73:=t73n s s.RM hok hn _ _ (SD.Valid.ordN hn);refine⟨rfl,?_⟩;(repeat' first|exact aq|refine aN ?_ ?_|exact tU);all_goals try exact dd
  refine drawP E_ok [12] pl20_6 (by kernel_rfl) ?_;(repeat' first|exact aq|refine aN ?_ ?_|exact tU);all_goals try exact dd
  refine t74.use [] ?_ trivial rfl;(repeat' first|exact aq|refine aN ?_ ?_|exact tU);all_goals try exact dd
  refine CallP.frameH c73 [0,1,2,5,8,0,9,11,10,12] (fPp) rfl ?_;rintro ce h' ⟨M',rfl,rfl⟩;refine⟨rfl,?_⟩;subst hr;(repeat' first|exact aq|refine aN ?_ ?_|exact tU);all_goals try exact dd
  all_goals(repeat' first|exact aq|refine aN ?_ ?_|exact tU)
  all_goals try exact dd
  all_goals intro h1
  all_goals first|exact absurd h1 (by decide)|(cases h1;done)|skip
  all_goals(repeat' first|exact aq|refine aN ?_ ?_|exact tU)
  all_goals try exact dd
  refine⟨_,_,⟨rfl,rfl⟩,?_⟩;exact ent_tau [0,1,2,3,4,5] ⟨fPp,tMm,rfl⟩
 ·rw[if_pos h0]at hr;subst h0;have hok:=hv.okM;have hn5:=hv.2.2.2.1;have c73:=t73 s s.RM (srtF s.fr s.n) true co hok _ (ordL_ok s s.RM (Or.inr ⟨hn,rfl,c1⟩)) s.n 0 begS [] (Nat.zero_add _) begOk (fun _ _ _ h=>by cases h);refine⟨rfl,?_⟩;(repeat' first|exact aq|refine aN ?_ ?_|exact tU);all_goals try exact dd
  refine drawP E_ok [13] pl20_6 (by kernel_rfl) ?_;(repeat' first|exact aq|refine aN ?_ ?_|exact tU);all_goals try exact dd
  refine t74.use [] ?_ trivial rfl;(repeat' first|exact aq|refine aN ?_ ?_|exact tU);all_goals try exact dd
  refine CallP.frameH c73 [0,1,2,5,8,9,10,12,11,13] (fPp) rfl ?_;rintro ce h' ⟨M',hM',rfl,rfl⟩;refine⟨rfl,?_⟩;subst hr;(repeat' first|exact aq|refine aN ?_ ?_|exact tU);all_goals try exact dd
  all_goals(repeat' first|exact aq|refine aN ?_ ?_|exact tU)
  all_goals try exact dd
  all_goals intro h1
  all_goals first|exact absurd h1 (by decide)|(cases h1;done)|skip
  all_goals(repeat' first|exact aq|refine aN ?_ ?_|exact tU)
  all_goals try exact dd
  refine⟨_,_,⟨rfl,rfl⟩,?_⟩;exact ent_tau [0,1,2,3,4,5] ⟨fPp,tMm,rfl⟩
noncomputable def SD.drpS(s:SD)(m:Nat):Nat→Nat→Option Nat
 |0,_=>none
 |r+1,S=>match decide (pop S=m)&&s.canP (restS s.n S)with
  |true=>some S
  |false=>s.drpS m r (S+1)
noncomputable def SD.drpF(s:SD):Nat→Nat→Int
 |0,_=>0
 |r+1,m=>match s.drpS m (2^s.n) 0 with
  |some S=>((S:Nat):Int)
  |none=>s.drpF r (m+1)
noncomputable def SD.dropT(s:SD):Int×Int:=if s.oe true=0 then(s.drpF (s.n+1) 0,0)else(0,s.oe true)
theorem rest_sdiff{n S:Nat}(hn:n≤5)(h:S<2^n):sdiff (2^n-1) S=restS n S:=by
 refine Nat.eq_of_testBit_eq fun i=>?_
 rw[rest_bit h];by_cases hi:i<64
 ·rw[sdiff_bit hi,Nat.testBit_two_pow_sub_one]
 ·rw[Nat.testBit_lt_two_pow (Nat.lt_of_lt_of_le (sdiff_lt (a:=2^n-1) (b:=S) (n:=n) (by omega)) (Nat.pow_le_pow_right (by omega) (show n≤i by omega))),decide_eq_false (by omega)];rfl
theorem t32(s:SD):CallP Tryz.prog 32 [SA s] (HS s) (Ret (.tup [.int .i64 (s.dropT).1,.int .i64 (s.dropT).2]) (HS s)):=by
 have c:=o62a s;unfold KO at c;unfold SD.dropT;obtain⟨e,he⟩: ∃e,s.oe true=e:=⟨_,rfl⟩;rw[he]at c⊢;obtain⟨r,hr⟩: ∃r,(if e=0 then(s.drpF (s.n+1) 0,(0:Int))else(0,e))=r:=⟨_,rfl⟩;rw[hr];refine callDR (E:=E) E_ok Tryz.func32 rfl (g:=61) (k1:=5) (k2:=2) Tryz.func61 isrec61 rfl ?_;(repeat' first|exact aq|refine aN ?_ ?_|exact tU);all_goals try exact dd
 refine CallP.frameH c [0,1,2,3,4,5,7] (fPp) rfl ?_;rintro ce h' (⟨h0,rfl,rfl⟩|⟨h0,⟨hv,hVt,ha⟩,hn,rfl,rfl⟩|⟨h0,⟨hv,hVt,ha⟩,hn,co,c1,c2,rfl,rfl⟩)
 ·rw[if_neg h0]at hr;subst hr;refine⟨rfl,?_⟩;(repeat' first|exact aq|refine aN ?_ ?_|exact tU);all_goals try exact dd
  all_goals(repeat' first|exact aq|refine aN ?_ ?_|exact tU)
  all_goals try exact dd
  all_goals intro h1
  all_goals first|exact absurd h1 (by decide)|(cases h1;done)|skip
  all_goals(repeat' first|exact aq|refine aN ?_ ?_|exact tU)
  all_goals try exact dd
  all_goals(repeat' first|exact aq|refine aN ?_ ?_|exact tU)
  all_goals try exact dd
  all_goals intro h2
  all_goals first|exact absurd h2 (by decide)|(cases h2;done)|skip
  all_goals(repeat' first|exact aq|refine aN ?_ ?_|exact tU)
  all_goals try exact dd
  refine⟨_,_,⟨rfl,rfl⟩,?_⟩;exact ent_tau [0,1,2,3,4,5] ⟨fPp,tMm,rfl⟩
 ·rw[if_pos h0]at hr;subst h0;have hok:=hv.okM;have hn5:=hv.2.2.2.1;have hol:=ordL_ok s s.RM (bo:=false) (co:=0) (Or.inl ⟨hn,rfl,rfl⟩);refine⟨rfl,?_⟩;(repeat' first|exact aq|refine aN ?_ ?_|exact tU);all_goals try exact dd
  obtain⟨v,hvr⟩: ∃v,s.drpF (s.n+1) 0=v:=⟨_,rfl⟩;rw[hvr]at hr;subst hr;refine loopP E_ok [3,4,12] (fun i:Nat=>[(13,.int .i64 (i:Nat))]) (fun _ _=>HS s++[some (.cells (svd s 5)),some (.cells [.int .i64 0]),some (.cells (bcv s s.RM 5 (.osl false 9 1 s.n 0))),some (.roa 1 s.n (rowN (srtF s.fr s.n)))]) (fun i=>i≤s.n+1∧s.drpF (s.n+1-i) i=v) (fun i=>s.n+1-i) 0 ⟨Nat.zero_le _,hvr⟩ ?_ ?_
  ·refine Ent.trans (entCells (i:=8) (cs:=bcv s s.RM 5 (.osl false 5 1 0 0)) (cs':=bcv s s.RM 5 (.osl false 9 1 s.n 0)) rfl (fun η=>by rw[hn];simp[bcv,den,denL])) ?_;refine Ent.trans (entAlias (i:=5) rfl 1 (rowN (srtF s.fr s.n))) ?_;refine ent_tau [0,1,2,3,4,5,6,7,8,9] ⟨?_,tMm,rfl⟩;(repeat' first|exact fp|refine aN ?_ ?_);all_goals first|exact hn.symm|exact hn|exact fun k hk=>rfl|skip
  rintro i ⟨hi,hc⟩;have ei:=z1 i;refine And.intro ?_ (And.intro (fun hb=>?_) (fun hb=>?_))
  ·(repeat' first|exact aq|refine aN ?_ ?_|exact tU)
  ·have hin:i≤s.n:=by
    have:=of_decide_eq_true hb;omega
   have c90:=t90 s s.RM (srtF s.fr s.n) false 0 hn5;have hr2:s.n+1-i=(s.n-i)+1:=by omega
   rw[hr2,SD.drpF]at hc;obtain⟨w,hw⟩: ∃w,s.drpS i (2^s.n) 0=w:=⟨_,rfl⟩;rw[hw]at hc;have h32:2^s.n≤2^5:=Nat.pow_le_pow_right (by decide) hn5;have hp0:0<2^s.n:=Nat.two_pow_pos _;(repeat' first|exact aq|refine aN ?_ ?_|exact tU);all_goals try exact dd
   refine c90.use [0,1,2,5,8,9] ?_ (fPp) rfl;(repeat' first|exact aq|refine aN ?_ ?_|exact tU);all_goals try exact dd
   all_goals first|omega|skip
   refine loopP E_ok [3,4,5,12,13,18] (fun S:Nat=>[(19,.int .u64 (S:Nat))]) (fun _ H=>H) (fun S=>S≤2^s.n∧s.drpS i (2^s.n-S) S=w) (fun S=>2^s.n-S) 0 ⟨Nat.zero_le _,hw⟩ ?_ ?_
   ·exact ent_tau [0,1,2,3,4,5,6,7,8,9] ⟨fPp,tMm,rfl⟩
   rintro S ⟨hS,hcS⟩;refine And.intro ?_ (And.intro (fun hb2=>?_) (fun hb2=>?_))
   ·(repeat' first|exact aq|refine aN ?_ ?_|exact tU)
   ·have hSn:S<2^s.n:=by
     have:=of_decide_eq_true hb2;omega
    have hr3:2^s.n-S=(2^s.n-(S+1))+1:=by omega
    rw[hr3,SD.drpS]at hcS;have c98:=h98 S (by omega);(repeat' first|exact aq|refine aN ?_ ?_|exact tU);all_goals try exact dd
    refine c98.use [] ?_ trivial rfl;obtain⟨G,hG⟩: ∃G,decide (((pop S:Nat):Int)=((i:Nat):Int))=G:=⟨_,rfl⟩;have hG2:decide (pop S=i)=G:=by
     rw[←hG];by_cases c:pop S=i
     ·rw[decide_eq_true c,decide_eq_true (by omega)]
     ·rw[decide_eq_false c,decide_eq_false (by omega)]
    rw[hG2]at hcS;cases G
    ·simp only[Bool.false_and]at hcS;all_goals(repeat' first|exact aq|refine aN ?_ ?_|exact tU)
     all_goals try exact dd
     all_goals intro h1
     all_goals first|(exfalso;(try rw[hG]at h1);exact tFx h1)|(exfalso;(try rw[hG]at h1);exact fTx h1)|skip
     all_goals(repeat' first|exact aq|refine aN ?_ ?_|exact tU)
     all_goals try exact dd
     all_goals intro h2
     all_goals first|(exfalso;(try rw[hG]at h2);exact tFx h2)|(exfalso;(try rw[hG]at h2);exact fTx h2)|skip
     (repeat' first|exact aq|refine aN ?_ ?_|exact tU);all_goals try exact dd
     all_goals first|(show under none (_→_);exact fun hh=>absurd (hG.symm.trans hh) (by decide))|skip
     all_goals(repeat' first|exact aq|refine aN ?_ ?_|exact tU)
     all_goals try exact dd
     all_goals intro h3
     all_goals first|(exfalso;(try rw[hG]at h3);exact tFx h3)|(exfalso;(try rw[hG]at h3);exact fTx h3)|skip
     all_goals(repeat' first|exact aq|refine aN ?_ ?_|exact tU)
     all_goals try exact dd
     refine⟨S+1,⟨hSn,hcS⟩,by omega,?_⟩;exact ent_tau [0,1,2,3,4,5,6,7,8,9] ⟨fPp,tMm,rfl⟩
    ·simp only[Bool.true_and]at hcS;all_goals(repeat' first|exact aq|refine aN ?_ ?_|exact tU)
     all_goals try exact dd
     all_goals intro h1
     all_goals first|(exfalso;(try rw[hG]at h1);exact tFx h1)|(exfalso;(try rw[hG]at h1);exact fTx h1)|skip
     refine c90.use [0,1,2,5,8,9] ?_ (fPp) rfl;have c88:=t88 s s.RM (srtF s.fr s.n) false 0 hok _ hol (restS s.n S) (by have:=rest_lt s.n S;omega);rw[show(!(plansL s s.RM (sbR s s.RM).ord (restS s.n S)).isEmpty)=s.canP (restS s.n S)from rfl,←rest_sdiff hn5 hSn,←sdiff_nat]at c88;obtain⟨B,hB⟩: ∃B,s.canP (restS s.n S)=B:=⟨_,rfl⟩;rw[rest_sdiff hn5 hSn,hB]at c88;rw[hB]at hcS;all_goals(repeat' first|exact aq|refine aN ?_ ?_|exact tU)
     all_goals try exact dd
     all_goals intro h2
     all_goals first|(exfalso;(try rw[hG]at h2);exact tFx h2)|(exfalso;(try rw[hG]at h2);exact fTx h2)|skip
     refine c88.use [0,1,2,5,8,9] ?_ (fPp) rfl;cases B
     ·simp only at hcS;all_goals(repeat' first|exact aq|refine aN ?_ ?_|exact tU)
      all_goals try exact dd
      all_goals intro h3
      all_goals first|(exfalso;(try rw[hG]at h3);exact tFx h3)|(exfalso;(try rw[hG]at h3);exact fTx h3)|skip
      all_goals(repeat' first|exact aq|refine aN ?_ ?_|exact tU)
      all_goals try exact dd
      refine⟨S+1,⟨hSn,hcS⟩,by omega,?_⟩;exact ent_tau [0,1,2,3,4,5,6,7,8,9] ⟨fPp,tMm,rfl⟩
     ·simp only at hcS;subst hcS;simp only at hc;subst hc;all_goals(repeat' first|exact aq|refine aN ?_ ?_|exact tU)
      all_goals try exact dd
      all_goals intro h3
      all_goals first|(exfalso;(try rw[hG]at h3);exact tFx h3)|(exfalso;(try rw[hG]at h3);exact fTx h3)|skip
      all_goals(repeat' first|exact aq|refine aN ?_ ?_|exact tU)
      all_goals try exact dd
      all_goals(repeat' first|exact aq|refine aN ?_ ?_|exact tU)
      all_goals try exact dd
      all_goals intro h4
      all_goals first|exact absurd h4 (by decide)|(cases h4;done)|skip
      all_goals(repeat' first|exact aq|refine aN ?_ ?_|exact tU)
      all_goals try exact dd
      refine⟨_,_,⟨rfl,rfl⟩,?_⟩;exact ent_tau [0,1,2,3,4,5] ⟨fPp,tMm,rfl⟩
   ·have hSn:S=2^s.n:=by
     have:=of_decide_eq_false hb2;omega
    subst hSn;rw[Nat.sub_self,SD.drpS]at hcS;subst hcS;(repeat' first|exact aq|refine aN ?_ ?_|exact tU);all_goals try exact dd
    refine⟨i+1,⟨by omega,?_⟩,by omega,?_⟩
    ·rw[show s.n+1-(i+1)=s.n-i by omega];exact hc
    exact ent_tau [0,1,2,3,4,5,6,7,8,9] ⟨fPp,tMm,rfl⟩
  ·have hin:i=s.n+1:=by
    have:=of_decide_eq_false hb;omega
   subst hin;rw[Nat.sub_self,SD.drpF]at hc;subst hc;(repeat' first|exact aq|refine aN ?_ ?_|exact tU);all_goals try exact dd
   all_goals(repeat' first|exact aq|refine aN ?_ ?_|exact tU)
   all_goals try exact dd
   all_goals intro h1
   all_goals first|exact absurd h1 (by decide)|(cases h1;done)|skip
   all_goals(repeat' first|exact aq|refine aN ?_ ?_|exact tU)
   all_goals try exact dd
   refine⟨_,_,⟨rfl,rfl⟩,?_⟩;exact ent_tau [0,1,2,3,4,5] ⟨fPp,tMm,rfl⟩
 ·rw[if_pos h0]at hr;subst h0;have hok:=hv.okM;have hn5:=hv.2.2.2.1;have hol:=ordL_ok s s.RM (bo:=true) (co:=co) (Or.inr ⟨hn,rfl,c1⟩);refine⟨rfl,?_⟩;(repeat' first|exact aq|refine aN ?_ ?_|exact tU);all_goals try exact dd
  obtain⟨v,hvr⟩: ∃v,s.drpF (s.n+1) 0=v:=⟨_,rfl⟩;rw[hvr]at hr;subst hr;refine loopP E_ok [3,4,12] (fun i:Nat=>[(13,.int .i64 (i:Nat))]) (fun _ _=>HS s++[some (.cells (svd s 5)),some (.cells [.int .i64 0]),some (.cells (bcv s s.RM 5 (.osl true 9 1 s.n co))),some (.arr 1 s.n co (rowN (srtF s.fr s.n)))]) (fun i=>i≤s.n+1∧s.drpF (s.n+1-i) i=v) (fun i=>s.n+1-i) 0 ⟨Nat.zero_le _,hvr⟩ ?_ ?_
  ·exact ent_tau [0,1,2,3,4,5,6,7,8,9] ⟨fPp,tMm,rfl⟩
  rintro i ⟨hi,hc⟩;have ei:=z1 i;refine And.intro ?_ (And.intro (fun hb=>?_) (fun hb=>?_))
  ·(repeat' first|exact aq|refine aN ?_ ?_|exact tU)
  ·have hin:i≤s.n:=by
    have:=of_decide_eq_true hb;omega
   have c90:=t90 s s.RM (srtF s.fr s.n) true co hn5;have hr2:s.n+1-i=(s.n-i)+1:=by omega
   rw[hr2,SD.drpF]at hc;obtain⟨w,hw⟩: ∃w,s.drpS i (2^s.n) 0=w:=⟨_,rfl⟩;rw[hw]at hc;have h32:2^s.n≤2^5:=Nat.pow_le_pow_right (by decide) hn5;have hp0:0<2^s.n:=Nat.two_pow_pos _;(repeat' first|exact aq|refine aN ?_ ?_|exact tU);all_goals try exact dd
   refine c90.use [0,1,2,5,8,9] ?_ (fPp) rfl;(repeat' first|exact aq|refine aN ?_ ?_|exact tU);all_goals try exact dd
   all_goals first|omega|skip
   refine loopP E_ok [3,4,5,12,13,18] (fun S:Nat=>[(19,.int .u64 (S:Nat))]) (fun _ H=>H) (fun S=>S≤2^s.n∧s.drpS i (2^s.n-S) S=w) (fun S=>2^s.n-S) 0 ⟨Nat.zero_le _,hw⟩ ?_ ?_
   ·exact ent_tau [0,1,2,3,4,5,6,7,8,9] ⟨fPp,tMm,rfl⟩
   rintro S ⟨hS,hcS⟩;refine And.intro ?_ (And.intro (fun hb2=>?_) (fun hb2=>?_))
   ·(repeat' first|exact aq|refine aN ?_ ?_|exact tU)
   ·have hSn:S<2^s.n:=by
     have:=of_decide_eq_true hb2;omega
    have hr3:2^s.n-S=(2^s.n-(S+1))+1:=by omega
    rw[hr3,SD.drpS]at hcS;have c98:=h98 S (by omega);(repeat' first|exact aq|refine aN ?_ ?_|exact tU);all_goals try exact dd
    refine c98.use [] ?_ trivial rfl;obtain⟨G,hG⟩: ∃G,decide (((pop S:Nat):Int)=((i:Nat):Int))=G:=⟨_,rfl⟩;have hG2:decide (pop S=i)=G:=by
     rw[←hG];by_cases c:pop S=i
     ·rw[decide_eq_true c,decide_eq_true (by omega)]
     ·rw[decide_eq_false c,decide_eq_false (by omega)]
    rw[hG2]at hcS;cases G
    ·simp only[Bool.false_and]at hcS;all_goals(repeat' first|exact aq|refine aN ?_ ?_|exact tU)
     all_goals try exact dd
     all_goals intro h1
     all_goals first|(exfalso;(try rw[hG]at h1);exact tFx h1)|(exfalso;(try rw[hG]at h1);exact fTx h1)|skip
     all_goals(repeat' first|exact aq|refine aN ?_ ?_|exact tU)
     all_goals try exact dd
     all_goals intro h2
     all_goals first|(exfalso;(try rw[hG]at h2);exact tFx h2)|(exfalso;(try rw[hG]at h2);exact fTx h2)|skip
     (repeat' first|exact aq|refine aN ?_ ?_|exact tU);all_goals try exact dd
     all_goals first|(show under none (_→_);exact fun hh=>absurd (hG.symm.trans hh) (by decide))|skip
     all_goals(repeat' first|exact aq|refine aN ?_ ?_|exact tU)
     all_goals try exact dd
     all_goals intro h3
     all_goals first|(exfalso;(try rw[hG]at h3);exact tFx h3)|(exfalso;(try rw[hG]at h3);exact fTx h3)|skip
     all_goals(repeat' first|exact aq|refine aN ?_ ?_|exact tU)
     all_goals try exact dd
     refine⟨S+1,⟨hSn,hcS⟩,by omega,?_⟩;exact ent_tau [0,1,2,3,4,5,6,7,8,9] ⟨fPp,tMm,rfl⟩
    ·simp only[Bool.true_and]at hcS;all_goals(repeat' first|exact aq|refine aN ?_ ?_|exact tU)
     all_goals try exact dd
     all_goals intro h1
     all_goals first|(exfalso;(try rw[hG]at h1);exact tFx h1)|(exfalso;(try rw[hG]at h1);exact fTx h1)|skip
     refine c90.use [0,1,2,5,8,9] ?_ (fPp) rfl;have c88:=t88 s s.RM (srtF s.fr s.n) true co hok _ hol (restS s.n S) (by have:=rest_lt s.n S;omega);rw[show(!(plansL s s.RM (sbR s s.RM).ord (restS s.n S)).isEmpty)=s.canP (restS s.n S)from rfl,←rest_sdiff hn5 hSn,←sdiff_nat]at c88;obtain⟨B,hB⟩: ∃B,s.canP (restS s.n S)=B:=⟨_,rfl⟩;rw[rest_sdiff hn5 hSn,hB]at c88;rw[hB]at hcS;all_goals(repeat' first|exact aq|refine aN ?_ ?_|exact tU)
     all_goals try exact dd
     all_goals intro h2
     all_goals first|(exfalso;(try rw[hG]at h2);exact tFx h2)|(exfalso;(try rw[hG]at h2);exact fTx h2)|skip
     refine c88.use [0,1,2,5,8,9] ?_ (fPp) rfl;cases B
     ·simp only at hcS;all_goals(repeat' first|exact aq|refine aN ?_ ?_|exact tU)
      all_goals try exact dd
      all_goals intro h3
      all_goals first|(exfalso;(try rw[hG]at h3);exact tFx h3)|(exfalso;(try rw[hG]at h3);exact fTx h3)|skip
      all_goals(repeat' first|exact aq|refine aN ?_ ?_|exact tU)
      all_goals try exact dd
      refine⟨S+1,⟨hSn,hcS⟩,by omega,?_⟩;exact ent_tau [0,1,2,3,4,5,6,7,8,9] ⟨fPp,tMm,rfl⟩
     ·simp only at hcS;subst hcS;simp only at hc;subst hc;all_goals(repeat' first|exact aq|refine aN ?_ ?_|exact tU)
      all_goals try exact dd
      all_goals intro h3
      all_goals first|(exfalso;(try rw[hG]at h3);exact tFx h3)|(exfalso;(try rw[hG]at h3);exact fTx h3)|skip
      all_goals(repeat' first|exact aq|refine aN ?_ ?_|exact tU)
      all_goals try exact dd
      all_goals(repeat' first|exact aq|refine aN ?_ ?_|exact tU)
      all_goals try exact dd
      all_goals intro h4
      all_goals first|exact absurd h4 (by decide)|(cases h4;done)|skip
      all_goals(repeat' first|exact aq|refine aN ?_ ?_|exact tU)
      all_goals try exact dd
      refine⟨_,_,⟨rfl,rfl⟩,?_⟩;exact ent_tau [0,1,2,3,4,5] ⟨fPp,tMm,rfl⟩
   ·have hSn:S=2^s.n:=by
     have:=of_decide_eq_false hb2;omega
    subst hSn;rw[Nat.sub_self,SD.drpS]at hcS;subst hcS;(repeat' first|exact aq|refine aN ?_ ?_|exact tU);all_goals try exact dd
    refine⟨i+1,⟨by omega,?_⟩,by omega,?_⟩
    ·rw[show s.n+1-(i+1)=s.n-i by omega];exact hc
    exact ent_tau [0,1,2,3,4,5,6,7,8,9] ⟨fPp,tMm,rfl⟩
  ·have hin:i=s.n+1:=by
    have:=of_decide_eq_false hb;omega
   subst hin;rw[Nat.sub_self,SD.drpF]at hc;subst hc;(repeat' first|exact aq|refine aN ?_ ?_|exact tU);all_goals try exact dd
   all_goals(repeat' first|exact aq|refine aN ?_ ?_|exact tU)
   all_goals try exact dd
   all_goals intro h1
   all_goals first|exact absurd h1 (by decide)|(cases h1;done)|skip
   all_goals(repeat' first|exact aq|refine aN ?_ ?_|exact tU)
   all_goals try exact dd
   refine⟨_,_,⟨rfl,rfl⟩,?_⟩;exact ent_tau [0,1,2,3,4,5] ⟨fPp,tMm,rfl⟩
noncomputable def SD.sb(s:SD):SB:=sbR s s.RM
theorem count_sb{s:SD}(h0:s.oe true=0):s.countT=((((s.sb.plans allB).length:Nat):Int),(0:Int)):=by
 unfold SD.countT;rw[if_pos h0,plans_all];rfl
/-! ### Who is turned away -/
theorem drpS_spec(s:SD)(m:Nat): ∀r S,(∀T,s.drpS m r S=some T→(S≤T∧T<S+r)∧(pop T=m∧s.canP (restS s.n T)=true)∧ ∀U,S≤U→U<T→ ¬(pop U=m∧s.canP (restS s.n U)=true))∧
  (s.drpS m r S=none→ ∀U,S≤U→U<S+r→ ¬(pop U=m∧s.canP (restS s.n U)=true))
 |0,S=>⟨fun T h=>(by cases h),fun _ U h1 h2=>by omega⟩
 |r+1,S=>by
  obtain⟨i1,i2⟩:=drpS_spec s m r (S+1);rw[SD.drpS];cases hB:decide (pop S=m)&&s.canP (restS s.n S)with
  |true=>
   simp only[Bool.and_eq_true,decide_eq_true_iff]at hB;refine⟨fun T h=>?_,fun h=>by cases h⟩;cases h;exact⟨⟨Nat.le_refl _,by omega⟩,hB,fun U h1 h2=>by omega⟩
  |false=>
   have hB2: ¬(pop S=m∧s.canP (restS s.n S)=true):=fun h=>by
    rw[decide_eq_true h.1,h.2]at hB;cases hB
   refine⟨fun T h=>?_,fun h U h1 h2=>?_⟩
   ·obtain⟨a,b,c⟩:=i1 T h;refine⟨⟨by omega,by omega⟩,b,fun U h1 h2=>?_⟩;rcases Nat.lt_or_ge S U with h3|h3
    ·exact c U h3 h2
    ·obtain rfl:U=S:=by omega
     exact hB2
   ·rcases Nat.lt_or_ge S U with h3|h3
    ·exact i2 h U h3 (by omega)
    ·obtain rfl:U=S:=by omega
     exact hB2
theorem drpF_spec(s:SD): ∀r m,(∀U,U<2^s.n→s.canP (restS s.n U)=true→m≤pop U)→(∃T,T<2^s.n∧s.canP (restS s.n T)=true∧pop T<m+r)→ ∃S,s.drpF r m=((S:Nat):Int)∧s.sb.IsDrop S
 |0,m,h1,h2=>by
  obtain⟨T,a,b,c⟩:=h2;have:=h1 T a b;omega
 |r+1,m,h1,h2=>by
  obtain⟨i1,i2⟩:=drpS_spec s m (2^s.n) 0;rw[SD.drpF];cases hB:s.drpS m (2^s.n) 0 with
  |some S=>
   obtain⟨a,b,c⟩:=i1 S hB;refine⟨S,rfl,⟨by show S<2^s.n;omega,b.2,fun T hT hc=>?_⟩⟩;have hm:=h1 T hT hc;rcases Nat.lt_or_ge (pop S) (pop T)with h3|h3
   ·exact .inr (.inl h3)
   ·have e:pop T=m:=by omega
    rcases Nat.lt_trichotomy S T with h4|h4|h4
    ·exact .inr (.inr ⟨by omega,h4⟩)
    ·exact .inl h4
    ·exact absurd ⟨e,hc⟩ (c T (Nat.zero_le _) h4)
  |none=>
   have h3:=i2 hB;refine drpF_spec s r (m+1) (fun U hU hc=>?_) ?_
   ·have:=h1 U hU hc;rcases Nat.lt_or_ge m (pop U)with h4|h4
    ·exact h4
    ·exact absurd ⟨by omega,hc⟩ (h3 U (Nat.zero_le _) (by omega))
   ·obtain⟨T,a,b,c⟩:=h2;exact⟨T,a,b,by omega⟩
theorem pop_all{n:Nat}(h:n≤5):pop (2^n-1)<0+(n+1):=by
 have:n=0∨n=1∨n=2∨n=3∨n=4∨n=5:=by omega
 rcases this with h|h|h|h|h|h<;>subst h<;>decide
theorem drop_sb{s:SD}(hv:s.Valid)(h0:s.oe true=0):s.dropT=(((s.sb.dropF:Nat):Int),(0:Int)):=by
 have hV:=hv.vldM;obtain⟨S,h1,h2⟩:=drpF_spec s (s.n+1) 0 (fun _ _ _=>Nat.zero_le _) ⟨2^s.n-1,by have:=Nat.two_pow_pos s.n;omega,by rw[rest_every];exact can_zero hV.t hV.s,pop_all hv.2.2.2.1⟩;have h3:=SB.IsDrop.uniq h2 (drop_is hV.t hV.s hv.2.2.2.1);unfold SD.dropT;rw[if_pos h0,h1,h3]
/-! ### The first one who cannot be served -/
theorem fstF_is(s:SD): ∀r i,s.fstF r i=match(List.range' i r).find? (fun i=>!s.canP (2^(i+1)-1))with
  |some j=>((j:Int),0)
  |none=>(0,4)
 |0,_=>rfl
 |r+1,i=>by
  rw[SD.fstF,List.range'_succ,List.find?_cons];cases s.canP (2^(i+1)-1)
  ·rfl
  ·exact fstF_is s r (i+1)
theorem first_sb{s:SD}(h0:s.oe true=0):s.firstT=match s.sb.firstF with
  |some j=>((j:Int),0)
  |none=>(0,4):=by
 unfold SD.firstT SB.firstF;rw[if_pos h0,fstF_is,List.range_eq_range'];rfl
/-! ### What a plan breaks -/
/-! ### The best plans -/
end Go.Proofs.YthnhlkflkidemaaGreatDoor
