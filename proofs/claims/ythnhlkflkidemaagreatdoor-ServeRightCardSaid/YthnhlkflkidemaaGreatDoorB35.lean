/-
  Parts: HoPk, HoPl, HoQc, V14, V15, V16b, V17b, V18b.
-/
import Derived.Test.YthnhlkflkidemaaGreatDoorB34
import Derived.Test.YthnhlkflkidemaaGreatDoorB24
import Derived.Test.YthnhlkflkidemaaGreatDoorB32
set_option linter.unusedVariables false
set_option linter.unusedSimpArgs false
/-
 Contracts: the first set of moves of which something is so.
-/
namespace Go.Proofs.YthnhlkflkidemaaGreatDoor
open Go Go.Sy Kuhn
set_option maxRecDepth 100000
set_option maxHeartbeats 4000000
attribute [local irreducible] CallP CodeP Ent YieldP
attribute [local irreducible] HD.ch maskO
theorem h73(h:HD)(up:Bool):CallP Tryz.prog 123 [HD.A h,.bool up] (HD.H h) (Ret (.fn (.func 181) [] [.ptr 1 0,.ptr 2 0]) (HD.H h++[some (.cells (bc h)),some (.cells [.bool up])])):=by
 refine callR (E:=E) E_ok Tryz.func123 rfl ?_;(repeat' (first|exact tU|exact fun _=>rfl|exact rfl|refine aN ?_ ?_));exact ent_tau [0,1,2] ⟨qZ3,qZ2,rfl⟩
noncomputable def G72(h:HD)(s:Bool)(m:Int)(up:Bool):SHeap:=HD.H h++[some (.roc (bc h)),some (.roc (chI fun j=>(h.ch s j:Nat))),some (.roc [.int .i64 m]),some (.roc (bc h)),some (.roc [.bool up])]
theorem h72(h:HD)(hn:h.n≤7)(s:Bool)(m:Int)(g:Nat)(caps:List SV)(hg:tests g caps)(up:Bool)(P:Nat→Bool)(hT: ∀S:Nat,S<128→CallP Tryz.prog g (.int .u64 S::caps) (B72 h s m) (Ret (.bool (P S)) (B72 h s m)))
  (S0:Nat) (h0:FirstOf up h.n P S0):
  CallP Tryz.prog 122 [.fn (.func 181) [] [.ptr 4 0,.ptr 5 0],.agg [.fn (.func g) [] caps]] (G72 h s m up) (Ret (.tup [.int .u64 S0,.bool true]) (G72 h s m up)):=by
 have c94:=h94 h hn s m g caps hg up P hT S0 h0
 rcases hg with⟨rfl,rfl⟩|⟨rfl,rfl⟩
 all_goals refine callM (E:=E) E_ok Tryz.func122 rfl ?_
 all_goals(repeat' (first|exact tU|exact fun _=>rfl|exact rfl|refine aN ?_ ?_))
 all_goals refine rangeP E_ok rfl rfl ?_
 all_goals refine c94.use [0,1,2,3,6,10,7,8,4,5] ?_ (qZ3) rfl
 all_goals refine⟨by decide,?_⟩
 all_goals refine codeP_ret ?_
 all_goals refine And.intro trivial ?_
 all_goals refine And.intro (fun o h=>h) ?_
 all_goals refine And.intro ?_ ⟨_,_,⟨rfl,rfl⟩,?_⟩
 all_goals first|exact ent_tau [0,1,2,3,4,5] ⟨qZ3,qZ2,rfl⟩|simp[AllP,under,gB,wB,inR_iffH,IntKind.bits]
def firstS(up:Bool)(n:Nat)(P:Nat→Bool):Nat:=((setsL up n).find? P).getD 0
theorem firstS_of{up:Bool}{n:Nat}{P:Nat→Bool}(hn:n≤7){T:Nat}(hT:T<2^n)(hP:P T=true):FirstOf up n P (firstS up n P):=by
 obtain⟨S,hS⟩:=first_ex (up:=up) hn hT hP;have:=first_set hn hS;unfold firstS;rw[hS];exact this
theorem lone_zero(h:HD)(s:Bool): ∀n,lone h s 0 n=true
 |0=>rfl
 |n+1=>by simp[lone,lone_zero h s n]
def prfS(h:HD)(s:Bool):Nat:=firstS false h.n fun S=>lone h s S h.n
theorem prf_ok(h:HD)(hn:h.n≤7)(s:Bool):FirstOf false h.n (fun S=>lone h s S h.n) (prfS h s):=firstS_of hn (Nat.pow_pos (by omega)) (lone_zero h s h.n)
theorem h74b(h:HD)(hn:h.n≤7)(s:Bool)(S:Nat)(hS:S<128):CallP Tryz.prog 124 [.int .u64 S,.ptr 1 0,.ptr 2 0] (B72 h s 0) (Ret (.bool (lone h s S h.n)) (B72 h s 0)):=by
 refine(h74 h hn s S hS).use [0,1,2] ?_ (qZ3) rfl;(repeat' (first|exact tU|exact fun _=>rfl|exact rfl|refine aN ?_ ?_))
theorem h28(h:HD)(hv:h.Valid)(s:Bool):CallP Tryz.prog 53 [HD.A h,.bool s] (HD.H h) (Ret (.tup [.int .i64 (prfS h s:Nat),.int .i64 0]) (HD.H h)):=by
 have hn7:=hv.2.1;have c47:=h47_0 h 121 (.inr rfl) true fun hv=>h71 h
 have hf:=prf_ok h hn7 s;have c72:=h72 h hn7 s 0 124 [.ptr 1 0,.ptr 2 0] (.inl ⟨rfl,rfl⟩) false (fun S=>lone h s S h.n) (fun S hS=>h74b h hn7 s S hS) (prfS h s) hf;have hb:prfS h s<128:=Nat.lt_of_lt_of_le hf.1 (Nat.pow_le_pow_right (n:=2) (by omega) hn7);refine callDR (E:=E) E_ok Tryz.func53 rfl (g:=112) (k1:=5) (k2:=2) Tryz.func112 isrec46 rfl ?_;(repeat' (first|exact tU|exact fun _=>rfl|exact rfl|refine aN ?_ ?_));refine CallP.frameH c47 [0] (qZ3) rfl ?_;rintro ce h' (⟨hv',hc1,rfl,rfl⟩|⟨hv',rfl,rfl⟩|⟨hv',hc1,rfl,rfl⟩)
 ·refine⟨rfl,?_⟩;(repeat' (first|exact tU|exact fun _=>rfl|exact rfl|refine aN ?_ ?_));refine drawP E_ok [3] pl53_3 (by kernel_rfl) ?_;(repeat' (first|exact tU|exact fun _=>rfl|exact rfl|refine aN ?_ ?_));all_goals refine(h56 s).use [] ?_ trivial rfl
  all_goals(repeat' (first|exact tU|exact fun _=>rfl|exact rfl|refine aN ?_ ?_))
  all_goals refine(h50 h hv s).use [0] ?_ (qZ3) rfl
  all_goals(repeat' (first|exact tU|exact fun _=>rfl|exact rfl|refine aN ?_ ?_))
  all_goals refine(h73 h false).use [0] ?_ (qZ3) rfl
  all_goals(repeat' (first|exact tU|exact fun _=>rfl|exact rfl|refine aN ?_ ?_))
  all_goals refine c72.use [0,3,4,2,5,6] ?_ (qZ3) rfl
  all_goals(repeat' (first|exact tU|exact fun _=>rfl|exact rfl|refine aN ?_ ?_))
  all_goals all_goals first|exact qM0|skip
  all_goals intro _
  all_goals(repeat' (first|exact tU|exact fun _=>rfl|exact rfl|refine aN ?_ ?_))
  all_goals all_goals first|exact qM0|skip
  all_goals refine⟨_,_,⟨rfl,rfl⟩,?_⟩
  all_goals exact ent_tau [0] ⟨qZ3,qZ2,rfl⟩
 ·exact absurd hv hv'
 ·cases hc1
theorem bit_le{S n i:Nat}(hS:S<2^n)(h:S.testBit i=true):i<n:=by
 by_cases c:i<n
 ·exact c
 ·rw[Nat.testBit_lt_two_pow (Nat.lt_of_lt_of_le hS (Nat.pow_le_pow_right (by omega) (by omega)))]at h;cases h
theorem lone_all{h:HD}{s:Bool}{S:Nat} : ∀{n:Nat},lone h s S n=true↔ ∀i,i<n→S.testBit i=true→sdiff S (2^i)&&&h.ch s i=0
 |0=>⟨fun _ i hi=>absurd hi (Nat.not_lt_zero i),fun _=>rfl⟩
 |n+1=>by
  simp only[lone,Bool.and_eq_true,lone_all (n:=n)];constructor
  ·rintro⟨a,b⟩ i hi hb;rcases Nat.lt_succ_iff_lt_or_eq.1 hi with c|rfl
   ·exact a i c hb
   ·rw[hb]at b;by_cases c:sdiff S (2^i)&&&h.ch s i=0
    ·exact c
    ·rw[decide_eq_false c]at b;cases b
  ·intro H;refine⟨fun i hi=>H i (by omega),?_⟩;cases hb:S.testBit n with
   |false=>rfl
   |true=>
    rw[decide_eq_true (H n (by omega) hb)];rfl
theorem lone_iff{h:HD}(hn:h.n≤7){s:Bool}{S:Nat}(hS:S<2^h.n):lone h s S h.n=true↔h.Alone s (fun i=>S.testBit i):=by
 have key: ∀i,i<h.n→(sdiff S (2^i)&&&h.ch s i=0↔ ∀k,k<h.n→S.testBit k=true→k≠i→h.can s i k=false):=by
  intro i hi;constructor
  ·intro e k hk hb hne;have:=congrArg (fun x=>x.testBit k) e;simp only[Nat.testBit_and,Nat.zero_testBit]at this;rw[sdiff_bit (by omega),hb,HD.ch_bit,decide_eq_true hi,decide_eq_true hk,Nat.testBit_two_pow,decide_eq_false (by omega)]at this;simpa using this
  ·intro H;apply Nat.eq_of_testBit_eq;intro k;simp only[Nat.testBit_and,Nat.zero_testBit];by_cases hk:k<h.n
   ·rw[sdiff_bit (by omega),HD.ch_bit,decide_eq_true hi,decide_eq_true hk,Nat.testBit_two_pow];by_cases hne:k=i
    ·rw[decide_eq_true hne.symm];simp
    ·cases hb:S.testBit k with
     |false=>simp
     |true=>
      rw[H k hk hb hne];simp
   ·rw[HD.ch_bit,decide_eq_false hk];simp
 rw[lone_all];constructor
 ·intro H i k hi hk bi bk hne;have a:=(key i hi).1 (H i hi bi) k hk bk fun c=>hne c.symm
  have b:=(key k hk).1 (H k hk bk) i hi bi hne;unfold HD.apart;rw[a,b];rfl
 ·intro H i hi bi;refine(key i hi).2 fun k hk bk hne=>?_
  have:=H i k hi hk bi bk fun c=>hne c.symm
  unfold HD.apart at this;simp only[Bool.and_eq_true]at this;cases c:h.can s i k
  ·rfl
  ·rw[c]at this;simp at this
theorem mask_pop{B:Nat→Bool}{n:Nat}(hn:n≤7)(hB: ∀i,B i=true→i<n):pop (maskO B n)=cnt B 7:=by
 unfold pop;apply cnt_congr;intro r hr;rw[maskO_bit];cases b:B r with
 |false=>simp
 |true=>rw[decide_eq_true (hB r b)];rfl
theorem pop_alone{h:HD}(hv:h.Valid){s:Bool}{S:Nat}(hS:S<2^h.n)(ha:h.Alone s (fun i=>S.testBit i)):pop S≤h.few s:=by
 obtain⟨p,a,b⟩:=HD.need_plan hv s HD.full;exact HD.alone_le (ok:=HD.full) (fun i hi=>⟨bit_le hS hi,rfl⟩) ha b a
theorem prf_lt(h:HD)(hn:h.n≤7)(s:Bool):prfS h s<2^h.n:=(prf_ok h hn s).1
theorem prf_alone(h:HD)(hn:h.n≤7)(s:Bool):h.Alone s (fun i=>(prfS h s).testBit i):=(lone_iff hn (prf_lt h hn s)).1 (prf_ok h hn s).2.1
theorem prf_best{h:HD}(hn:h.n≤7){s:Bool}{T:Nat}(hT:T<2^h.n)(ha:h.Alone s (fun i=>T.testBit i)):prfS h s=T∨Prior false (prfS h s) T:=(prf_ok h hn s).2.2 T hT ((lone_iff hn hT).2 ha)
theorem prf_pop{h:HD}(hv:h.Valid)(s:Bool):pop (prfS h s)=h.few s:=by
 have hn:=hv.2.1;apply Nat.le_antisymm (pop_alone hv (prf_lt h hn s) (prf_alone h hn s));obtain⟨B,b1,b2,b3⟩:=HD.need_alone hv s HD.full;have hm:=mask_pop hn fun i hi=>(b1 i hi).1
 have:=prf_best hn (s:=s) (maskO_lt B h.n) (fun i k hi hk bi bk hne=>b2 i k hi hk (by have bi':(maskO B h.n).testBit i=true:=bi;rw[maskO_bit]at bi';simp at bi';exact bi'.2) (by have bk':(maskO B h.n).testBit k=true:=bk;rw[maskO_bit]at bk';simp at bk';exact bk'.2) hne);have:pop (maskO B h.n)≤pop (prfS h s):=by
  rcases this with e|e
  ·rw[e];exact Nat.le_refl _
  ·unfold Prior at e;simp only at e;omega
 unfold HD.few;omega
end Go.Proofs.YthnhlkflkidemaaGreatDoor
/-
 How many horses are needed by a plan. (--fast)
-/
namespace Go.Proofs.YthnhlkflkidemaaGreatDoor
open Go Go.Sy Srv Kuhn
set_option maxRecDepth 100000
set_option maxHeartbeats 4000000
attribute [local irreducible] CallP CodeP Ent YieldP
theorem h28s(h:HD)(hv:h.Valid)(hb:h.b=true)(s:Bool):CallP Tryz.prog 53 [.agg [.int .i64 h.pace,.slice 0 4 0 h.n h.cap],.bool s] (HD.H h) (Ret (.tup [.int .i64 (prfS h s:Nat),.int .i64 0]) (HD.H h)):=by
 refine CallP.pre (entTm ?_) (h28 h hv s);refine⟨rfl,fun η=>?_,rfl,fun η=>rfl,trivial⟩;unfold HD.A;rw[hb];simp[den,denL]
theorem h28n(h:HD)(hv:h.Valid)(h0:h.n=0)(hb:h.b=false)(hc:h.cap=0)(s:Bool)(d:SD):CallP Tryz.prog 53 [.agg [.int .i64 h.pace,.snil],.bool s] [some (.roa 5 d.n d.F)] (Ret (.tup [.int .i64 (prfS h s:Nat),.int .i64 0]) [some (.roa 5 d.n d.F)]):=by
 have c:CallP Tryz.prog 53 [.agg [.int .i64 h.pace,.osl false 1 4 0 0],.bool s] [some (.roa 5 d.n d.F),some (.roa 4 0 (HD.F h))] (Ret (.tup [.int .i64 (prfS h s:Nat),.int .i64 0]) [some (.roa 5 d.n d.F),some (.roa 4 0 (HD.F h))]):=by
  have h1:=h28 h hv s;have e:HD.A h= .agg [.int .i64 h.pace,.osl false 0 4 0 0]:=by
   unfold HD.A;rw[h0,hb,hc]
  have e2:HD.H h=[some (.roa 4 0 (HD.F h))]:=by
   unfold HD.H;rw[h0]
  rw[e,e2]at h1;refine h1.use [1] ?_ (fPp) rfl;exact⟨rfl,rfl⟩
 refine CallP.ent (CallP.pre (h':=[some (.roa 5 d.n d.F),some (.roa 4 0 (HD.F h))]) ?_ (c.mono fun ce h1 hk=>?_))
 ·refine(entAlias (i:=0) rfl 4 (HD.F h)).trans ?_;refine entTm ⟨rfl,fun η=>?_,rfl,fun η=>rfl,trivial⟩;simp[den,denL]
 ·obtain⟨rfl,rfl⟩:=hk;refine⟨_,_,⟨rfl,rfl⟩,?_⟩;exact ent_tau [0] ⟨fPp,tMm,rfl⟩
def svc(s:SD)(i:Nat):List SV:=[.osl s.t.bM 0 3 s.t.nM s.t.cM,.osl s.t.bS 1 2 s.t.nS s.t.cS,.osl s.t.bL 2 4 s.t.nL s.t.cL,.int .i64 s.slo,.int .i64 s.shi,.int .i64 s.pace,.osl s.b i 5 s.n s.cap]
def H83(s:SD)(R o:Nat→Nat)(bo:Bool)(co:Nat)(p:Nat→Int):SHeap:=
 [some .dead,some .dead,some .dead,some (.roa 5 s.n s.F),some (.roc (bcv s R 3 (.osl bo 5 1 s.n co))),some (.roa 1 s.n (rowN o)),some (.roc [.ptr 4 0]),some (.roa 1 s.n (rowI p)),some (.roc (svc s 3))]
noncomputable def needS(s:SD)(R:Nat→Nat)(p:Nat→Int):Nat:=((sbR s R).hd s.slo s.pace p true 0).few true
theorem t83(s:SD)(R:Nat→Nat)(o:Nat→Nat)(bo:Bool)(co:Nat)(hs:s.Ok R)(hV:(sbR s R).Vld)(hL:OrdL s (sbR s R).ord o bo co)(p:Nat→Int)(hp:(sbR s R).Pln p):
  CallP Tryz.prog 83 [.slice 7 1 0 s.n s.n,.ptr 8 0,.ptr 6 0] (H83 s R o bo co p) (Ret (.int .i64 (needS s R p:Nat)) (H83 s R o bo co p)):=by
 have hw:=hs.w;have hp3: ∀i,i<s.n→0≤p i∧p i≤3:=fun i hi=>by
  have:=hp i hi;have e:((sbR s R).w:Int)=s.t.nS:=rfl;omega
 have c:=t76s s R o bo co hs _ hL p hp3;rw[moves_eq hs p]at c;have hlo:=hs.slo;have hval: ∀b cap,((sbR s R).hd s.slo s.pace p b cap).Valid:=fun b cap=>hd_valid hV hp hlo.1 hlo.2 hs.pace b cap
 have hlen:(((sbR s R).mvL p).map (tupM s R p)).length=((sbR s R).mvL p).length:=List.length_map _;have hpf: ∀b cap,prfS ((sbR s R).hd s.slo s.pace p b cap) true<128:=fun b cap=>Nat.lt_of_lt_of_le (prf_lt _ (hval b cap).2.1 true) (Nat.pow_le_pow_right (n:=2) (by omega) (hval b cap).2.1)
 have hpop: ∀b cap,pop (prfS ((sbR s R).hd s.slo s.pace p b cap) true)=needS s R p:=fun b cap=>prf_pop (hval b cap) true
 refine callR (E:=E) E_ok Tryz.func83 rfl ?_;(repeat' first|exact aq|refine aN ?_ ?_|exact tU);all_goals try exact dd
 refine drawP E_ok [] pl83_1 (by kernel_rfl) ?_;(repeat' first|exact aq|refine aN ?_ ?_|exact tU);all_goals try exact dd
 refine CallP.frameH c [0,1,2,3,4,5,7] (fPp) rfl ?_;rintro ce h' (⟨hM,rfl,rfl⟩|⟨hM,cap,w,hc1,hc2,hw2,rfl,rfl⟩)
 ·have h0:((sbR s R).mvL p).length=0:=by rw[←hlen,hM];rfl
  have c28:=h28n ((sbR s R).hd s.slo s.pace p false 0) (hval false 0) h0 rfl rfl true s;have hb:=hpf false 0;have hq:=hpop false 0;generalize prfS ((sbR s R).hd s.slo s.pace p false 0) true=P at c28 hb hq;refine⟨rfl,?_⟩;(repeat' first|exact aq|refine aN ?_ ?_|exact tU);all_goals try exact dd
  refine c28.use [3] ?_ (fPp) rfl;(repeat' first|exact aq|refine aN ?_ ?_|exact tU);all_goals try exact dd
  refine mustS (fun hb1=>?_) (fun hb1=>absurd hb1 (by decide));(repeat' first|exact aq|refine aN ?_ ?_|exact tU);all_goals try exact dd
  refine(h98 _ hb).use [] ?_ trivial rfl;rw[hq];(repeat' first|exact aq|refine aN ?_ ?_|exact tU);all_goals try exact dd
  exact ent_tau [0,1,2,3,4,5,6,7,8] ⟨fPp,tMm,rfl⟩
 ·have hn:(((sbR s R).mvL p).map (tupM s R p)).length=((sbR s R).hd s.slo s.pace p true cap).n:=hlen;have c28:=h28s ((sbR s R).hd s.slo s.pace p true cap) (hval true cap) rfl true;have hb:=hpf true cap;have hq:=hpop true cap;rw[hn]at hM hc1 hw2⊢;have hrow: ∀k,k<((sbR s R).hd s.slo s.pace p true cap).n→rowM w k=HD.F ((sbR s R).hd s.slo s.pace p true cap) k:=fun k hk=>by
   have h1:=hw2 k hk;have hk2:k<((sbR s R).mvL p).length:=hk;have h2:(((sbR s R).mvL p).map (tupM s R p)).getD k zM=tupM s R p (((sbR s R).mvL p).getD k 0):=by
    rw[List.getD_eq_getElem?_getD,List.getElem?_map,List.getD_eq_getElem?_getD,List.getElem?_eq_getElem hk2];rfl
   rw[h2]at h1;have hm:=gd_mem hk2;have hin:((sbR s R).mvL p).getD k 0<s.n:=(mem_mvL.1 hm).1;have hh:=hs.hut _ hin;unfold rowM;rw[←h1];show [SV.int .i64 _,SV.int .i64 (s.hut _),SV.int .i64 _,SV.int .i64 _]=[SV.int .i64 _,SV.int .i64 (((s.hut (((sbR s R).mvL p).getD k 0)).toNat:Nat):Int),SV.int .i64 _,SV.int .i64 _];rw[Int.toNat_of_nonneg hh.1];rfl
  generalize prfS ((sbR s R).hd s.slo s.pace p true cap) true=P at c28 hb hq;refine⟨rfl,?_⟩;(repeat' first|exact aq|refine aN ?_ ?_|exact tU);all_goals try exact dd
  refine c28.use [9] ?_ ?_ rfl
  ·(repeat' first|exact aq|refine aN ?_ ?_|exact tU);all_goals try exact dd
   refine mustS (fun hb1=>?_) (fun hb1=>absurd hb1 (by decide));(repeat' first|exact aq|refine aN ?_ ?_|exact tU);all_goals try exact dd
   refine(h98 _ hb).use [] ?_ trivial rfl;rw[hq];(repeat' first|exact aq|refine aN ?_ ?_|exact tU);all_goals try exact dd
   exact ent_tau [0,1,2,3,4,5,6,7,8] ⟨fPp,tMm,rfl⟩
  ·(repeat' first|exact fp|refine aN ?_ ?_);intro k hk;exact hrow k hk
def cmpF(x y:Nat→Int):Nat→Nat→Int
 |0,_=>0
 |r+1,i=>if x i=y i then cmpF x y r (i+1)else cmpI (x i) (y i)
theorem cmpF_lex(x y:Nat→Int): ∀r i,cmpF x y r i<0↔ ∃k,k<r∧x (i+k)<y (i+k)∧ ∀j,j<k→x (i+j)=y (i+j)
 |0,i=>by
  rw[cmpF];exact⟨fun h=>absurd h (by decide),fun⟨k,hk,_⟩=>absurd hk (Nat.not_lt_zero k)⟩
 |r+1,i=>by
  rw[cmpF];by_cases c:x i=y i
  ·rw[if_pos c,cmpF_lex x y r (i+1)];constructor
   ·rintro⟨k,h1,h2,h3⟩;refine⟨k+1,by omega,by rw[show i+(k+1)=i+1+k by omega];exact h2,fun j hj=>?_⟩;cases j with
    |zero=>exact c
    |succ j=>
     rw[show i+(j+1)=i+1+j by omega];exact h3 j (by omega)
   ·rintro⟨k,h1,h2,h3⟩;cases k with
    |zero=>
     have h2:x i<y i:=h2;omega
    |succ k=>
     refine⟨k,by omega,by rw[show i+1+k=i+(k+1)by omega];exact h2,fun j hj=>?_⟩;rw[show i+1+j=i+(j+1)by omega];exact h3 (j+1) (by omega)
  ·rw[if_neg c];have e:cmpI (x i) (y i)<0↔x i<y i:=by
    unfold cmpI;by_cases h:x i<y i
    ·simp[h]
    ·have h2:y i<x i:=by omega
     simp[h,h2]
   rw[e];constructor
   ·intro h;exact⟨0,by omega,h,fun j hj=>absurd hj (Nat.not_lt_zero j)⟩
   ·rintro⟨k,h1,h2,h3⟩;cases k with
    |zero=>exact h2
    |succ k=>exact absurd (h3 0 (by omega)) c
theorem cmp_lex(x y:Nat→Int)(n:Nat):decide (cmpF x y n 0<0)=lexB n x y:=by
 rw[Bool.eq_iff_iff,decide_eq_true_iff,cmpF_lex];unfold lexB;rw[List.any_eq_true];constructor
 ·rintro⟨k,h1,h2,h3⟩;rw[Nat.zero_add]at h2;refine⟨k,List.mem_range.2 h1,?_⟩;rw[Bool.and_eq_true,decide_eq_true_iff,List.all_eq_true];exact⟨h2,fun j hj=>decide_eq_true (by have:=h3 j (List.mem_range.1 hj);rwa [Nat.zero_add]at this)⟩
 ·rintro⟨k,h1,h2⟩;rw[Bool.and_eq_true,decide_eq_true_iff,List.all_eq_true]at h2;refine⟨k,List.mem_range.1 h1,by rw[Nat.zero_add];exact h2.1,fun j hj=>?_⟩;rw[Nat.zero_add];exact of_decide_eq_true (h2.2 j (List.mem_range.2 hj))
theorem t149(n c1 c2:Nat)(hn:n≤1000)(x y:Nat→Int):CallP Tryz.prog 149 [.slice 0 1 0 n c1,.slice 1 1 0 n c2] [some (.roa 1 n (rowI x)),some (.roa 1 n (rowI y))] (Ret (.int .i64 (cmpF x y n 0)) [some (.roa 1 n (rowI x)),some (.roa 1 n (rowI y))]):=by
 obtain⟨V,hV⟩: ∃V,cmpF x y n 0=V:=⟨_,rfl⟩;rw[hV];refine callR (E:=E) E_ok Tryz.func149 rfl ?_;(repeat' first|exact aq|refine aN ?_ ?_|exact tU);all_goals try exact dd
 refine loopP E_ok [0,1,4,9,10] (fun i:Nat=>[(11,.int .i64 (i:Nat))]) (fun _ H=>H) (fun i=>i≤n∧cmpF x y (n-i) i=V) (fun i=>n-i) 0 ⟨Nat.zero_le _,hV⟩ ?_ ?_
 ·exact ent_tau [0,1] ⟨fPp,tMm,rfl⟩
 rintro i ⟨hi,hc⟩;have ei:=z1 i;refine And.intro ?_ (And.intro (fun hb=>?_) (fun hb=>?_))
 ·(repeat' first|exact aq|refine aN ?_ ?_|exact tU)
 ·have hin:i<n:=by
   have:=of_decide_eq_true hb;omega
  have hr:n-i=(n-(i+1))+1:=by omega
  rw[hr,cmpF]at hc;(repeat' first|exact aq|refine aN ?_ ?_|exact tU);all_goals try exact dd
  ·intro hx;exact absurd (of_decide_eq_true hx) (by omega)
  ·intro _;(repeat' first|exact aq|refine aN ?_ ?_|exact tU);all_goals try exact dd
   have c89:=h89 (x (0+((i:Nat):Int).toNat)) (y (0+((i:Nat):Int).toNat));refine c89.use [] ?_ trivial rfl;rw[ei];(repeat' first|exact aq|refine aN ?_ ?_|exact tU)
   ·intro hx;have hx2:cmpI (x i) (y i)≠0:=by simpa using hx
    have hne:x i≠y i:=fun e=>hx2 (by rw[e];unfold cmpI;simp)
    rw[if_neg hne]at hc;rw[←hc];(repeat' first|exact aq|refine aN ?_ ?_|exact tU);all_goals try exact dd
    exact ent_tau [0,1] ⟨fPp,tMm,rfl⟩
   ·intro hx;have hx2:cmpI (x i) (y i)=0:=by simpa using hx
    have he:x i=y i:=by
     unfold cmpI at hx2;by_cases h1:x i<y i
     ·simp[h1]at hx2
     ·by_cases h2:y i<x i
      ·simp[h1,h2]at hx2
      ·omega
    rw[if_pos he]at hc;(repeat' first|exact aq|refine aN ?_ ?_|exact tU);all_goals try exact dd
    refine⟨i+1,⟨hin,hc⟩,by omega,?_⟩;exact ent_tau [0,1] ⟨fPp,tMm,rfl⟩
 ·have hin:i=n:=by
   have:=of_decide_eq_false hb;omega
  subst hin;rw[Nat.sub_self,cmpF]at hc;subst hc;(repeat' first|exact aq|refine aN ?_ ?_|exact tU);all_goals try exact dd
  ·intro hx;exact absurd (of_decide_eq_true hx) (by omega)
  ·intro hx;(repeat' first|exact aq|refine aN ?_ ?_|exact tU);all_goals try exact dd
   exact ent_tau [0,1] ⟨fPp,tMm,rfl⟩
set_option maxHeartbeats 16000000
def NSX:List Nat:=[0,1,2,3,4,5,6,7,8,9,10,11,12,13,14,15,16,18]
def NSY:List Nat:=[0,1,2,3,4,5,6,7,8,9,10,11,12,13,14,15,16,17]
def TB:Tm:=[some (none,.bool true)]
def pick147(n:Nat)(c:(Nat→Int)→Int)(g:Option ((Nat→Int)×Int))(x:Nat→Int):(Nat→Int)×Int:=match g with
 |none=>(x,c x)
 |some (q,k)=>if c x<k∨c x=k∧lexB n x q=true then(x,c x)else(q,k)
noncomputable def L147b:SObj:= .loopr ([none,none,none,none,some (.ptr 9 0),some (.ptr 10 0),some (.ptr 11 0),some (.ptr 12 0),some (.ptr 13 0)]++List.replicate 32 none) #[12] (asS Tryz.f147) (boS Tryz.f147) .ready none
noncomputable def P147b(s:SD)(g:Option ((Nat→Int)×Int)):List (Nat×SObj):=match g with
 |none=>[(8,L147b),(9,.cells [.fn (.func 149) [] []]),(10,.cells [.fn (.func 79) [] [.ptr 14 0]]),(11,.cells [.snil]),(12,.cells [.int .i64 0]),(13,.cells [.bool false]),(14,.cells [.ptr 4 0])]
 |some (q,k)=>[(8,L147b),(9,.cells [.fn (.func 149) [] []]),(10,.cells [.fn (.func 79) [] [.ptr 14 0]]),(11,.cells [.slice 17 1 0 s.n s.n]),(12,.cells [.int .i64 k]),(13,.cells [.bool true]),(14,.cells [.ptr 4 0]),(17,.arr 1 s.n s.n (rowI q))]
noncomputable def C147b(s:SD)(g:Option ((Nat→Int)×Int))(_:Bool):OB:=exOB (packR (P147b s g))
noncomputable def HO147b(s:SD)(R o:Nat→Nat)(bo:Bool)(co S:Nat)(x:Nat→Int)(ns:List Nat)(g:Option ((Nat→Int)×Int))(b17:SObj):SHeap:=
 [some .dead,some .dead,some .dead,some (.roa 5 s.n s.F),some (.roc (bcv s R 3 (.osl bo 5 1 s.n co))),some (.roa 1 s.n (rowN o)),some (.roc [.ptr 4 0]),some (.roc [.int .u64 (S:Nat)]),some (.pack ns (packR (P147b s g))),some .dead,some .dead,some .dead,some .dead,some .dead,some .dead,some .dead,some .dead,some b17,some .dead]
noncomputable def HU147b(s:SD)(R o:Nat→Nat)(bo:Bool)(co S:Nat)(x:SV)(k:Int)(b:Bool)(b17 b18:SObj):SHeap:=
 [some .dead,some .dead,some .dead,some (.roa 5 s.n s.F),some (.roc (bcv s R 3 (.osl bo 5 1 s.n co))),some (.roa 1 s.n (rowN o)),some (.roc [.ptr 4 0]),some (.roc [.int .u64 (S:Nat)]),some L147b,some (.cells [.fn (.func 149) [] []]),some (.cells [.fn (.func 79) [] [.ptr 14 0]]),some (.cells [x]),some (.cells [.int .i64 k]),some (.cells [.bool b]),some (.cells [.ptr 4 0]),some .dead,some .dead,some b17,some b18]
theorem pkN147b(s:SD)(R o:Nat→Nat)(bo:Bool)(co S:Nat)(x:Nat→Int)(k:Int):Ent 19 ⟨TB,HU147b s R o bo co S (.slice 17 1 0 s.n s.n) k true (.arr 1 s.n s.n (rowI x)) .dead,[]⟩ ⟨TB,HI s R o bo co S (C147b s (some (x,k)) true)++[some .dead,some .dead],[]⟩:=
 ((entPack (n:=19) (T:=TB) (H:=HU147b s R o bo co S (.slice 17 1 0 s.n s.n) k true (.arr 1 s.n s.n (rowI x)) .dead) (D:=[]) NSY (P147b s (some (x,k))) 8 (fPp) rfl rfl).trans
  (entCloseEx (i:=8) (k:=17) (ns:=NSS) rfl)).trans (ent_tau [0,1,2,3,4,5,6,7,8,9,10,11,12,13,14,15,16,17,18] ⟨fPp,tMm,rfl⟩)
theorem pkO147b(s:SD)(R o:Nat→Nat)(bo:Bool)(co S:Nat)(q:Nat→Int)(k:Int):Ent 19 ⟨TB,HU147b s R o bo co S (.slice 18 1 0 s.n s.n) k true .dead (.arr 1 s.n s.n (rowI q)),[]⟩ ⟨TB,HI s R o bo co S (C147b s (some (q,k)) true)++[some .dead,some .dead],[]⟩:=
 ((entPack (n:=19) (T:=TB) (H:=HU147b s R o bo co S (.slice 18 1 0 s.n s.n) k true .dead (.arr 1 s.n s.n (rowI q))) (D:=[]) NSX (P147b s (some (q,k))) 8 (fPp) rfl rfl).trans
  (entCloseEx (i:=8) (k:=18) (ns:=NSS) rfl)).trans (ent_tau [0,1,2,3,4,5,6,7,8,9,10,11,12,13,14,15,16,17,18] ⟨fPp,tMm,rfl⟩)
theorem y147b(s:SD)(R o:Nat→Nat)(bo:Bool)(co:Nat)(hs:s.Ok R)(L:List Nat)(hL:OrdL s L o bo co)(S:Nat)(g:Option ((Nat→Int)×Int))(x:Nat→Int)(hp: ∀i,i<s.n→0≤x i∧x i≤3):
  YieldP Tryz.prog 8 [.slice 17 1 0 s.n s.n] (HI s R o bo co S (C147b s g true)++[some (.arr 1 s.n s.n (rowI x))]) (Ret (.bool true) (HI s R o bo co S (C147b s (some (pick147 s.n (fun p=>walkS s L p) g x)) true)++[some .dead,some .dead])):=by
 have c:=t79 s R o bo co hs L hL x hp;have hn5:=hs.n5;generalize hK:(walkS s L x:Int)=K at c;cases g with
 |none=>
  have e:pick147 s.n (fun p=>walkS s L p) none x=(x,K):=by rw[←hK];rfl
  rw[e];refine YieldP.pre ((entOpenEx (i:=8) (ns:=NSS) (ob:=packR (P147b s none)) rfl).trans (entUnpack (n:=18) (T:=argT [.slice 17 1 0 s.n s.n]) (H:=HO147b s R o bo co S x NSX none (.arr 1 s.n s.n (rowI x))) (D:=[]) NSX (P147b s none) 8 rfl rfl rfl ⟨trivial,trivial,trivial,trivial,trivial,trivial,trivial,trivial⟩)) (show(8:Nat)<18 by decide) ?_;refine YieldP.ent (roundP E_ok rfl rfl fun l=>?_);(repeat' first|exact aq|refine aN ?_ ?_|exact tU);all_goals try exact dd
  refine c.use [0,1,2,3,4,5,14,17] ?_ (fPp) rfl;all_goals(repeat' first|exact aq|refine aN ?_ ?_|exact tU)
  all_goals try exact dd
  all_goals intro h1
  all_goals first|exact absurd h1 (by decide)|(cases h1;done)|skip
  all_goals(repeat' first|exact aq|refine aN ?_ ?_|exact tU)
  all_goals try exact dd
  all_goals intro h2
  all_goals first|exact absurd h2 (by decide)|(cases h2;done)|skip
  all_goals(repeat' first|exact aq|refine aN ?_ ?_|exact tU)
  all_goals try exact dd
  all_goals refine⟨_,_,⟨rfl,rfl⟩,?_⟩
  all_goals refine Ent.trans ?_ (pkN147b s R o bo co S x K)
  all_goals exact ent_tau [0,1,2,3,4,5,6,7,8,9,10,11,12,13,14,15,16,17,18] ⟨fPp,tMm,rfl⟩
 |some y=>
  obtain⟨q,k⟩:=y;have cc:=t149 s.n s.n s.n (by omega) x q;have hlex:=cmp_lex x q s.n;obtain⟨V,hV⟩: ∃V,cmpF x q s.n 0=V:=⟨_,rfl⟩;rw[hV]at cc hlex;obtain⟨A,hA⟩: ∃A,decide (K<k)=A:=⟨_,rfl⟩;obtain⟨B,hB⟩: ∃B,decide (K=k)=B:=⟨_,rfl⟩;obtain⟨D,hD⟩: ∃D,decide (V<0)=D:=⟨_,rfl⟩;have hpk:pick147 s.n (fun p=>walkS s L p) (some (q,k)) x=bif (A||(B&&D))then(x,K)else(q,k):=by
   rw[show pick147 s.n (fun p=>walkS s L p) (some (q,k)) x=if K<k∨K=k∧lexB s.n x q=true then(x,K)else(q,k)by rw[←hK];rfl];rw[←hA,←hB,←hD,hlex];by_cases h1:K<k<;>by_cases h2:K=k<;>cases lexB s.n x q<;>simp[h1,h2]
  refine YieldP.pre ((entOpenEx (i:=8) (ns:=NSS) (ob:=packR (P147b s (some (q,k)))) rfl).trans (entUnpack (n:=18) (T:=argT [.slice 17 1 0 s.n s.n]) (H:=HO147b s R o bo co S x NSX (some (q,k)) (.arr 1 s.n s.n (rowI x))) (D:=[]) NSX (P147b s (some (q,k))) 8 rfl rfl rfl ⟨trivial,trivial,trivial,trivial,trivial,trivial,trivial,trivial,trivial⟩)) (show(8:Nat)<18 by decide) ?_;refine YieldP.ent (roundP E_ok rfl rfl fun l=>?_);(repeat' first|exact aq|refine aN ?_ ?_|exact tU);all_goals try exact dd
  refine c.use [0,1,2,3,4,5,14,17] ?_ (fPp) rfl;cases A
  ·cases B
   ·rw[hpk];all_goals(repeat' first|exact aq|refine aN ?_ ?_|exact tU)
    all_goals try exact dd
    all_goals intro h1
    all_goals first|(exfalso;(try rw[hA]at h1);(try rw[hB]at h1);exact tFx h1)|(exfalso;(try rw[hA]at h1);(try rw[hB]at h1);exact fTx h1)|skip
    all_goals(repeat' first|exact aq|refine aN ?_ ?_|exact tU)
    all_goals try exact dd
    all_goals intro h2
    all_goals first|(exfalso;(try rw[hA]at h2);(try rw[hB]at h2);exact tFx h2)|(exfalso;(try rw[hA]at h2);(try rw[hB]at h2);exact fTx h2)|skip
    all_goals(repeat' first|exact aq|refine aN ?_ ?_|exact tU)
    all_goals try exact dd
    all_goals refine⟨_,_,⟨rfl,rfl⟩,?_⟩
    all_goals refine Ent.trans ?_ (pkO147b s R o bo co S q k)
    all_goals exact ent_tau [0,1,2,3,4,5,6,7,8,9,10,11,12,13,14,15,16,17,18] ⟨fPp,tMm,rfl⟩
   ·rw[hpk];all_goals(repeat' first|exact aq|refine aN ?_ ?_|exact tU)
    all_goals try exact dd
    all_goals intro h1
    all_goals first|(exfalso;(try rw[hA]at h1);(try rw[hB]at h1);exact tFx h1)|(exfalso;(try rw[hA]at h1);(try rw[hB]at h1);exact fTx h1)|skip
    refine cc.use [17,18] ?_ (fPp) rfl;cases D
    ·all_goals(repeat' first|exact aq|refine aN ?_ ?_|exact tU)
     all_goals try exact dd
     all_goals intro h2
     all_goals first|(exfalso;(try rw[hA]at h2);(try rw[hB]at h2);(try rw[hD]at h2);exact tFx h2)|(exfalso;(try rw[hA]at h2);(try rw[hB]at h2);(try rw[hD]at h2);exact fTx h2)|skip
     all_goals(repeat' first|exact aq|refine aN ?_ ?_|exact tU)
     all_goals try exact dd
     all_goals refine⟨_,_,⟨rfl,rfl⟩,?_⟩
     all_goals refine Ent.trans ?_ (pkO147b s R o bo co S q k)
     all_goals exact ent_tau [0,1,2,3,4,5,6,7,8,9,10,11,12,13,14,15,16,17,18] ⟨fPp,tMm,rfl⟩
    ·all_goals(repeat' first|exact aq|refine aN ?_ ?_|exact tU)
     all_goals try exact dd
     all_goals intro h2
     all_goals first|(exfalso;(try rw[hA]at h2);(try rw[hB]at h2);(try rw[hD]at h2);exact tFx h2)|(exfalso;(try rw[hA]at h2);(try rw[hB]at h2);(try rw[hD]at h2);exact fTx h2)|skip
     all_goals(repeat' first|exact aq|refine aN ?_ ?_|exact tU)
     all_goals try exact dd
     all_goals refine⟨_,_,⟨rfl,rfl⟩,?_⟩
     all_goals refine Ent.trans ?_ (pkN147b s R o bo co S x K)
     all_goals exact ent_tau [0,1,2,3,4,5,6,7,8,9,10,11,12,13,14,15,16,17,18] ⟨fPp,tMm,rfl⟩
  ·rw[hpk];all_goals(repeat' first|exact aq|refine aN ?_ ?_|exact tU)
   all_goals try exact dd
   all_goals intro h1
   all_goals first|(exfalso;(try rw[hA]at h1);(try rw[hB]at h1);exact tFx h1)|(exfalso;(try rw[hA]at h1);(try rw[hB]at h1);exact fTx h1)|skip
   all_goals(repeat' first|exact aq|refine aN ?_ ?_|exact tU)
   all_goals try exact dd
   all_goals intro h2
   all_goals first|(exfalso;(try rw[hA]at h2);(try rw[hB]at h2);exact tFx h2)|(exfalso;(try rw[hA]at h2);(try rw[hB]at h2);exact fTx h2)|skip
   all_goals(repeat' first|exact aq|refine aN ?_ ?_|exact tU)
   all_goals try exact dd
   all_goals refine⟨_,_,⟨rfl,rfl⟩,?_⟩
   all_goals refine Ent.trans ?_ (pkN147b s R o bo co S x K)
   all_goals exact ent_tau [0,1,2,3,4,5,6,7,8,9,10,11,12,13,14,15,16,17,18] ⟨fPp,tMm,rfl⟩
def pl147_6s:Plan:= .alt 0 (.alt 1 (.alt 2 (.alt 3 (.alt 4 (.alt 5 (.done) .no) .no) .no) (.alt 3 (.alt 2 (.alt 4 (.alt 5 (.done) .no) .no) (.alt 4 (.alt 2 (.alt 5 (.done) .no) .no) .no)) .no)) (.alt 2 (.alt 1 (.alt 3 (.alt 4 (.alt 5 (.done) .no) .no) .no) (.alt 3 (.alt 1 (.alt 4 (.alt 5 (.done) .no) .no) .no) .no)) (.alt 3 (.alt 1 (.alt 2 (.alt 4 (.alt 5 (.done) .no) .no) (.alt 4 (.alt 2 (.alt 5 (.done) .no) .no) .no)) (.alt 2 (.alt 1 (.alt 4 (.alt 5 (.done) .no) .no) .no) .no)) .no))) (.alt 1 (.alt 0 (.alt 2 (.alt 3 (.alt 4 (.alt 5 (.done) .no) .no) .no) (.alt 3 (.alt 2 (.alt 4 (.alt 5 (.done) .no) .no) (.alt 4 (.alt 2 (.alt 5 (.done) .no) .no) .no)) .no)) (.alt 2 (.alt 0 (.alt 3 (.alt 4 (.alt 5 (.done) .no) .no) .no) .no) .no)) (.alt 2 (.alt 0 (.alt 1 (.alt 3 (.alt 4 (.alt 5 (.done) .no) .no) .no) (.alt 3 (.alt 1 (.alt 4 (.alt 5 (.done) .no) .no) .no) .no)) (.alt 1 (.alt 0 (.alt 3 (.alt 4 (.alt 5 (.done) .no) .no) .no) .no) .no)) .no))
def S16:List Nat:=[0,1,2,3,4,5,6,7,8,9,10,11,12,13,14,15,0]
def step147(n:Nat)(c:(Nat→Int)→Int)(g:Option ((Nat→Int)×Int))(x:Nat→Int):Option ((Nat→Int)×Int)×Bool:=(some (pick147 n c g x),true)
def bestF(n:Nat)(c:(Nat→Int)→Int)(l:List (Nat→Int)):Option ((Nat→Int)×Int):=l.foldl (fun g x=>some (pick147 n c g x)) none
theorem run147(n:Nat)(c:(Nat→Int)→Int): ∀(l:List (Nat→Int)) (g:Option ((Nat→Int)×Int)),run (step147 n c) l g=(l.foldl (fun g x=>some (pick147 n c g x)) g,true)
 |[],g=>rfl
 |x::l,g=>by
  rw[run];exact run147 n c l _
noncomputable def G147b(s:SD)(R o:Nat→Nat)(bo:Bool)(co S:Nat)(x:SV)(k:Int)(b:Bool):SHeap:=
 [some .dead,some .dead,some .dead,some (.roa 5 s.n s.F),some (.roc (bcv s R 3 (.osl bo 5 1 s.n co))),some (.roa 1 s.n (rowN o)),some (.roc [.ptr 4 0]),some (.roc [.int .u64 (S:Nat)]),some L147b,some (.cells [.fn (.func 149) [] []]),some (.cells [.fn (.func 79) [] [.ptr 14 0]]),some (.cells [x]),some (.cells [.int .i64 k]),some (.cells [.bool b]),some (.cells [.ptr 4 0]),some .dead]
noncomputable def GP147b(s:SD)(R o:Nat→Nat)(bo:Bool)(co S:Nat)(ob:OB):SHeap:=
 [some .dead,some .dead,some .dead,some (.roa 5 s.n s.F),some (.roc (bcv s R 3 (.osl bo 5 1 s.n co))),some (.roa 1 s.n (rowN o)),some (.roc [.ptr 4 0]),some (.roc [.int .u64 (S:Nat)]),some (.pack S16 ob),some .dead,some .dead,some .dead,some .dead,some .dead,some .dead,some .dead]
noncomputable def GO147b(s:SD)(R o:Nat→Nat)(bo:Bool)(co S:Nat)(ns:List Nat)(g:Option ((Nat→Int)×Int)):SHeap:=
 [some .dead,some .dead,some .dead,some (.roa 5 s.n s.F),some (.roc (bcv s R 3 (.osl bo 5 1 s.n co))),some (.roa 1 s.n (rowN o)),some (.roc [.ptr 4 0]),some (.roc [.int .u64 (S:Nat)]),some (.pack ns (packR (P147b s g))),some .dead,some .dead,some .dead,some .dead,some .dead,some .dead,some .dead,some .dead]
theorem pre147b(s:SD)(R o:Nat→Nat)(bo:Bool)(co S:Nat)(T:Tm):Ent 16 ⟨T,G147b s R o bo co S .snil 0 false,[]⟩ ⟨T,GP147b s R o bo co S (C147b s none true),[]⟩:=
 (entPack (n:=16) (T:=T) (H:=G147b s R o bo co S .snil 0 false) (D:=[]) (S16++[0]) (P147b s none) 8 (fPp) rfl rfl).trans (entCloseEx (i:=8) (k:=0) (ns:=S16) rfl)
theorem r147b(s:SD)(R:Nat→Nat)(o:Nat→Nat)(bo:Bool)(co:Nat)(hs:s.Ok R)(L:List Nat)(hL:OrdL s L o bo co)(S:Nat)(hS:S<2^63)(hp: ∀x,x∈plansL s R L S→ ∀i,i<s.n→0≤x i∧x i≤3):
  (bestF s.n (fun p=>walkS s L p) (plansL s R L S)=none→CallP Tryz.prog 198 [.yld 8,.ptr 6 0,.ptr 7 0] (G147b s R o bo co S .snil 0 false) (Ret (.tup []) (G147b s R o bo co S .snil 0 false)))∧
  ∀q k,bestF s.n (fun p=>walkS s L p) (plansL s R L S)=some (q,k)→CallP Tryz.prog 198 [.yld 8,.ptr 6 0,.ptr 7 0] (G147b s R o bo co S .snil 0 false) (Ret (.tup []) (G147b s R o bo co S (.slice 16 1 0 s.n s.n) k true++[some (.arr 1 s.n s.n (rowI q))])):=by
 have c:=t198 s R o bo co hs L hL S hS (step147 s.n (fun p=>walkS s L p)) (C147b s) (fun g x hx=>y147b s R o bo co hs L hL S g x (hp x hx)) none
 rw[run147]at c
 simp only at c
 have h1: ∀g,bestF s.n (fun p=>walkS s L p) (plansL s R L S)=g→CallP Tryz.prog 198 [.yld 8,.ptr 6 0,.ptr 7 0] (GP147b s R o bo co S (C147b s none true)) (Ret (.tup []) (GP147b s R o bo co S (C147b s g true))):=fun g hg=>by
  have hg':(plansL s R L S).foldl (fun g x=>some (pick147 s.n (fun p=>walkS s L p) g x)) none=g:=hg
  rw[hg']at c
  refine c.use S16 ?_ (fPp) rfl
  exact⟨rfl,rfl⟩
 constructor
 ·intro hg
  refine CallP.pre (pre147b s R o bo co S _) ?_
  refine CallP.entR (h1 none hg) ?_
  refine(entOpenEx (i:=8) (ns:=S16) (ob:=packR (P147b s none)) rfl).trans ?_
  refine(entUnpack (n:=16) (T:=[some (none,.tup [])]) (H:=GO147b s R o bo co S (S16++[16]) none) (D:=[]) (S16++[16]) (P147b s none) 8 rfl rfl rfl ⟨trivial,trivial,trivial,trivial,trivial,trivial,trivial,trivial⟩).trans ?_
  exact ent_tau [0,1,2,3,4,5,6,7,8,9,10,11,12,13,14,15] ⟨fPp,tMm,rfl⟩
 ·intro q k hg
  refine CallP.pre (pre147b s R o bo co S _) ?_
  refine CallP.entR (h1 (some (q,k)) hg) ?_
  refine(entOpenEx (i:=8) (ns:=S16) (ob:=packR (P147b s (some (q,k)))) rfl).trans ?_
  refine(entUnpack (n:=16) (T:=[some (none,.tup [])]) (H:=GO147b s R o bo co S (S16++[16]) (some (q,k))) (D:=[]) (S16++[16]) (P147b s (some (q,k))) 8 rfl rfl rfl ⟨trivial,trivial,trivial,trivial,trivial,trivial,trivial,trivial,trivial⟩).trans ?_
  exact ent_tau [0,1,2,3,4,5,6,7,8,9,10,11,12,13,14,15,16] ⟨fPp,tMm,rfl⟩
def H147b(s:SD)(R o:Nat→Nat)(bo:Bool)(co S:Nat):SHeap:=
 [some .dead,some .dead,some .dead,some (.roa 5 s.n s.F),some (.roc (bcv s R 3 (.osl bo 5 1 s.n co))),some (.roa 1 s.n (rowN o)),some (.roc [.ptr 4 0]),some (.roc [.int .u64 (S:Nat)]),some (.cells [.ptr 4 0]),some .dead]
theorem t147b(s:SD)(R:Nat→Nat)(o:Nat→Nat)(bo:Bool)(co:Nat)(hs:s.Ok R)(L:List Nat)(hL:OrdL s L o bo co)(S:Nat)(hS:S<2^63)(hp: ∀x,x∈plansL s R L S→ ∀i,i<s.n→0≤x i∧x i≤3):
  CallP Tryz.prog 147 [.fn (.func 198) [] [.ptr 6 0,.ptr 7 0],.fn (.func 149) [] [],.agg [.fn (.func 79) [] [.ptr 8 0]]] (H147b s R o bo co S) (fun ce h'=>match bestF s.n (fun p=>walkS s L p) (plansL s R L S)with
   |none=>ce= .ret (.tup [.snil,.int .i64 0,.bool false])∧h'=H147b s R o bo co S
   |some (q,k)=>ce= .ret (.tup [.slice 10 1 0 s.n s.n,.int .i64 k,.bool true])∧h'=H147b s R o bo co S++[some (.arr 1 s.n s.n (rowI q))]):=by
 have r:=r147b s R o bo co hs L hL S hS hp;cases hg:bestF s.n (fun p=>walkS s L p) (plansL s R L S)with
 |none=>
  have r:=r.1 hg;refine callM (E:=E) E_ok Tryz.func147 rfl ?_;(repeat' first|exact aq|refine aN ?_ ?_|exact tU);all_goals try exact dd
  refine rangeP E_ok rfl rfl ?_;refine r.use [0,1,2,3,4,5,6,7,16,10,11,12,13,14,8,9] ?_ (fPp) rfl;refine⟨by decide,?_⟩;(repeat' first|exact aq|refine aN ?_ ?_|exact tU);refine drawP E_ok [] pl147_6s (by kernel_rfl) ?_;all_goals(repeat' first|exact aq|refine aN ?_ ?_|exact tU)
  all_goals try exact dd
  all_goals first|exact fun o h=>h|skip
  all_goals refine⟨_,_,⟨rfl,rfl⟩,?_⟩
  all_goals exact ent_tau [0,1,2,3,4,5,6,7,8,9] ⟨fPp,tMm,rfl⟩
 |some y=>
  obtain⟨q,k⟩:=y;have r:=r.2 q k hg;refine callM (E:=E) E_ok Tryz.func147 rfl ?_;(repeat' first|exact aq|refine aN ?_ ?_|exact tU);all_goals try exact dd
  refine rangeP E_ok rfl rfl ?_;refine r.use [0,1,2,3,4,5,6,7,16,10,11,12,13,14,8,9] ?_ (fPp) rfl;refine⟨by decide,?_⟩;(repeat' first|exact aq|refine aN ?_ ?_|exact tU);refine drawP E_ok [] pl147_6s (by kernel_rfl) ?_;all_goals(repeat' first|exact aq|refine aN ?_ ?_|exact tU)
  all_goals try exact dd
  all_goals first|exact fun o h=>h|skip
  all_goals refine⟨.ret (.tup [.slice 10 1 0 s.n s.n,.int .i64 k,.bool true]),H147b s R o bo co S++[some (.arr 1 s.n s.n (rowI q))],⟨rfl,rfl⟩,?_⟩
  all_goals exact ent_tau [0,1,2,3,4,5,6,7,8,9,17] ⟨fPp,tMm,rfl⟩
theorem t90(s:SD)(R o:Nat→Nat)(bo:Bool)(co:Nat)(hn:s.n≤5):CallP Tryz.prog 90 [.ptr 4 0] (HB s R o bo co) (Ret (.int .u64 ((2^s.n-1:Nat):Int)) (HB s R o bo co)):=by
 have h1:(1:Int)*2^((s.n:Nat):Int).toNat=((2^s.n:Nat):Int):=pow_int s.n;have h2:2^s.n≤2^5:=Nat.pow_le_pow_right (by decide) hn;have h3:0<2^s.n:=Nat.pow_pos (by decide);refine callR (E:=E) E_ok Tryz.func90 rfl ?_;(repeat' first|exact aq|refine aN ?_ ?_|exact tU);all_goals try exact dd
 refine ent_tau [0,1,2,3,4,5] ⟨fPp,⟨rfl,congrArg (SV.int .u64) ?_,trivial⟩,rfl⟩;rw[h1];generalize 2^s.n=m at h3;omega
def H78b(s:SD)(R o:Nat→Nat)(bo:Bool)(co:Nat):SHeap:=
 [some .dead,some .dead,some .dead,some (.roa 5 s.n s.F),some (.roc (bcv s R 3 (.osl bo 5 1 s.n co))),some (.roa 1 s.n (rowN o)),some (.cells [.ptr 4 0]),some .dead]
theorem t78b(s:SD)(R:Nat→Nat)(o:Nat→Nat)(bo:Bool)(co:Nat)(hs:s.Ok R)(L:List Nat)(hL:OrdL s L o bo co)(hp: ∀x,x∈plansL s R L (2^s.n-1)→ ∀i,i<s.n→0≤x i∧x i≤3):
  CallP Tryz.prog 78 [.ptr 4 0,.agg [.fn (.func 79) [] [.ptr 6 0]]] (H78b s R o bo co) (fun ce h'=>match bestF s.n (fun p=>walkS s L p) (plansL s R L (2^s.n-1))with
   |none=>ce= .panic (.iface 196 (.int .i64 4))∧h'=H78b s R o bo co
   |some (q,k)=>ce= .ret (.tup [.int .i64 k,.slice 8 1 0 s.n s.n])∧h'=H78b s R o bo co++[some (.arr 1 s.n s.n (rowI q))]):=by
 have hn5:=hs.n5;have c90:=t90 s R o bo co hn5;have hS:2^s.n-1<2^63:=by
  have:2^s.n≤2^5:=Nat.pow_le_pow_right (by decide) hn5;have h32:(2:Nat)^5=32:=rfl;omega
 have c:=t147b s R o bo co hs L hL (2^s.n-1) hS hp;generalize 2^s.n-1=S at c c90;cases hg:bestF s.n (fun p=>walkS s L p) (plansL s R L S)with
 |none=>
  rw[hg]at c;simp only at c⊢;refine callK (E:=E) E_ok Tryz.func78 rfl ?_;(repeat' first|exact aq|refine aN ?_ ?_|exact tU);all_goals try exact dd
  refine drawP E_ok [8] pl78_1 (by kernel_rfl) ?_;(repeat' first|exact aq|refine aN ?_ ?_|exact tU);all_goals try exact dd
  refine c90.use [0,1,2,3,4,5] ?_ (fPp) rfl;(repeat' first|exact aq|refine aN ?_ ?_|exact tU);all_goals try exact dd
  refine(t148 (S:Nat)).use [4] ?_ (fPp) rfl;(repeat' first|exact aq|refine aN ?_ ?_|exact tU);all_goals try exact dd
  refine CallP.frameH c [0,1,2,3,4,5,9,10,6,7] (fPp) rfl ?_;rintro ce h' ⟨rfl,rfl⟩;refine⟨rfl,?_⟩;(repeat' first|exact aq|refine aN ?_ ?_|exact tU);all_goals try exact dd
  refine mustS (fun hb1=>absurd hb1 (by decide)) (fun hb1=>?_);(repeat' first|exact aq|refine aN ?_ ?_|exact tU);all_goals try exact dd
  refine⟨_,_,⟨rfl,rfl⟩,?_⟩;exact ent_tau [0,1,2,3,4,5,6,7] ⟨fPp,tMm,rfl⟩
 |some y=>
  obtain⟨q,k⟩:=y;rw[hg]at c;simp only at c⊢;refine callK (E:=E) E_ok Tryz.func78 rfl ?_;(repeat' first|exact aq|refine aN ?_ ?_|exact tU);all_goals try exact dd
  refine drawP E_ok [8] pl78_1 (by kernel_rfl) ?_;(repeat' first|exact aq|refine aN ?_ ?_|exact tU);all_goals try exact dd
  refine c90.use [0,1,2,3,4,5] ?_ (fPp) rfl;(repeat' first|exact aq|refine aN ?_ ?_|exact tU);all_goals try exact dd
  refine(t148 (S:Nat)).use [4] ?_ (fPp) rfl;(repeat' first|exact aq|refine aN ?_ ?_|exact tU);all_goals try exact dd
  refine CallP.frameH c [0,1,2,3,4,5,9,10,6,7] (fPp) rfl ?_;rintro ce h' ⟨rfl,rfl⟩;refine⟨rfl,?_⟩;(repeat' first|exact aq|refine aN ?_ ?_|exact tU);all_goals try exact dd
  refine mustS (fun hb1=>?_) (fun hb1=>absurd hb1 (by decide));(repeat' first|exact aq|refine aN ?_ ?_|exact tU);all_goals try exact dd
  refine⟨.ret (.tup [.int .i64 k,.slice 8 1 0 s.n s.n]),H78b s R o bo co++[some (.arr 1 s.n s.n (rowI q))],⟨rfl,rfl⟩,?_⟩;exact ent_tau [0,1,2,3,4,5,6,7,11] ⟨fPp,tMm,rfl⟩
end Go.Proofs.YthnhlkflkidemaaGreatDoor
