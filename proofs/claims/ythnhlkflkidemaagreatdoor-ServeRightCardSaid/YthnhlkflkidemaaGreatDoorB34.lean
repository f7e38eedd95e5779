/-
  Parts: HoPj.
-/
import Derived.Test.YthnhlkflkidemaaGreatDoorB33
import Derived.Test.YthnhlkflkidemaaGreatDoorB13
set_option linter.unusedVariables false
set_option linter.unusedSimpArgs false
/-
 Contracts: the first set of moves of which something is so.
-/
namespace Go.Proofs.YthnhlkflkidemaaGreatDoor
open Go Go.Sy Kuhn
set_option maxRecDepth 100000
set_option maxHeartbeats 4000000
attribute [local irreducible] CallP CodeP Ent YieldP
attribute [local irreducible] HD.ch maskO
def rk(up:Bool)(n S:Nat):Nat:=match up with|true=>pop S|false=>n-pop S
def FirstOf(up:Bool)(n:Nat)(P:Nat→Bool)(S:Nat):Prop:=S<2^n∧P S=true∧ ∀T,T<2^n→P T=true→S=T∨Prior up S T
def findRFH:Code→Option (Array Nat×Code×Code)
 | .rangeFunc _ ps a b=>some (ps,a,b)
 | .seq a b=>match findRFH a with
  |some r=>some r
  |none=>findRFH b
 | .block _ c=>findRFH c
 | .loop c=>findRFH c
 | .scope c=>findRFH c
 |_=>none
noncomputable def asOfH(f:Func):Code:=match f.body with
 |some c=>match findRFH c with
  |some r=>r.2.1
  |none=> .skip
 |none=> .skip
noncomputable def bodyOfH(f:Func):Code:=match f.body with
 |some c=>match findRFH c with
  |some r=>r.2.2
  |none=> .skip
 |none=> .skip
noncomputable def L72(st:LoopState)(p:Option Code):SObj:= .loopr [none,none,none,some (.ptr 4 0),some (.ptr 6 0),some (.ptr 7 0),none,none,none,none,none,none,none,none,none] #[8] (asOfH Tryz.f122) (bodyOfH Tryz.f122) st p
noncomputable def B72(h:HD)(s:Bool)(m:Int):SHeap:=HD.H h++[some (.roc (bc h)),some (.roc (chI fun j=>(h.ch s j:Nat))),some (.roc [.int .i64 m])]
noncomputable def H72(h:HD)(s:Bool)(m:Int)(tv:SV)(st:LoopState)(p:Option Code)(x:Nat)(f:Bool):SHeap:=
 HD.H h++[some (.roc (bc h)),some (.roc (chI fun j=>(h.ch s j:Nat))),some (.roc [.int .i64 m]),some (.roc [tv]),some (L72 st p),some (.cells [.int .u64 x]),some (.cells [.bool f])]
def tests(g:Nat)(caps:List SV):Prop:=(g=124∧caps=[.ptr 1 0,.ptr 2 0])∨(g=124∧caps=[.ptr 2 0,.ptr 1 0,.ptr 3 0])
theorem y72(h:HD)(s:Bool)(m:Int)(g:Nat)(caps:List SV)(hg:tests g caps)(S:Nat)(P:Bool)(hT:CallP Tryz.prog g (.int .u64 S::caps) (B72 h s m) (Ret (.bool P) (B72 h s m))):
  YieldP Tryz.prog 5 [.int .u64 S] (H72 h s m (.fn (.func g) [] caps) .ready none 0 false) (Ret (.bool (!P)) (H72 h s m (.fn (.func g) [] caps) (bif P then .done else .ready) (bif P then some .ret else none) (bif P then S else 0) P)):=by
 refine YieldP.ent (roundP E_ok rfl rfl fun l=>?_);rcases hg with⟨rfl,rfl⟩|⟨rfl,rfl⟩;all_goals(repeat' (first|exact tU|exact fun _=>rfl|exact rfl|refine aN ?_ ?_))
 all_goals refine hT.use [0,1,2,3] ?_ (qZ3) rfl
 all_goals cases P
 all_goals(repeat' (first|exact tU|exact fun _=>rfl|exact rfl|refine aN ?_ ?_))
 all_goals all_goals first|exact qM0|skip
 all_goals intro _
 all_goals(repeat' (first|exact tU|exact fun _=>rfl|exact rfl|refine aN ?_ ?_))
 all_goals all_goals first|exact qM0|skip
 all_goals refine⟨_,_,⟨rfl,rfl⟩,?_⟩
 all_goals exact ent_tau [0,1,2,3,4,5,6,7] ⟨qZ3,qZ2,rfl⟩
noncomputable def H94(h:HD)(s:Bool)(m:Int)(tv:SV)(up:Bool)(st:LoopState)(p:Option Code)(x:Nat)(f:Bool):SHeap:=
 HD.H h++[some (.roc (bc h)),some (.roc (chI fun j=>(h.ch s j:Nat))),some (.roc [.int .i64 m]),some (.roc [tv]),some (L72 st p),some (.cells [.int .u64 x]),some (.cells [.bool f]),some (.roc (bc h)),some (.roc [.bool up])]
theorem rk_le{up:Bool}{n S:Nat}(hn:n≤7)(h:S<2^n):rk up n S≤n:=by
 have:=pop_le hn h;cases up<;>simp only[rk]<;>omega
theorem first_of{up:Bool}{n i S:Nat}{P:Nat→Bool}(hn:n≤7)(h:S<2^n)(hi:rk up n S=i)(hP:P S=true)(hb: ∀T,T<2^n→P T=true→i<rk up n T∨rk up n T=i∧S≤T):FirstOf up n P S:=by
 refine⟨h,hP,fun T hT hPT=>?_⟩;have p1:=pop_le hn h;have p2:=pop_le hn hT;unfold Prior;rcases hb T hT hPT with c|⟨c,d⟩
 ·right;left;cases up<;>simp only[rk]at hi c⊢ <;>omega
 ·by_cases e:S=T
  ·exact .inl e
  ·right;right;cases up<;>simp only[rk]at hi c⊢ <;>omega
theorem h94(h:HD)(hn:h.n≤7)(s:Bool)(m:Int)(g:Nat)(caps:List SV)(hg:tests g caps)(up:Bool)(P:Nat→Bool)(hT: ∀S:Nat,S<128→CallP Tryz.prog g (.int .u64 S::caps) (B72 h s m) (Ret (.bool (P S)) (B72 h s m)))
  (S0:Nat) (h0:FirstOf up h.n P S0):
  CallP Tryz.prog 181 [.yld 5,.ptr 8 0,.ptr 9 0] (H94 h s m (.fn (.func g) [] caps) up .ready none 0 false) (Ret (.tup []) (H94 h s m (.fn (.func g) [] caps) up .done (some .ret) S0 true)):=by
 have hy:=fun S hS=>y72 h s m g caps hg S (P S) (hT S hS)
 have p2:2^h.n≤2^7:=Nat.pow_le_pow_right (by omega) hn
 have p1:=Nat.pow_pos (n:=h.n) (show 0<2 by omega)
 have hev:=HD.every_lt hn
 have ev1:((h.every:Nat):Int)+1=((2^h.n:Nat):Int):=by
  unfold HD.every
  omega
 rcases hg with⟨rfl,rfl⟩|⟨rfl,rfl⟩<;>cases up
 ·refine callR (E:=E) E_ok Tryz.func181 rfl ?_
  (repeat' (first|exact tU|exact fun _=>rfl|exact rfl|refine aN ?_ ?_))
  all_goals first|exact qM0|skip
  refine loopP E_ok [0,1,2,4,5,14] (fun i:Nat=>[(15,.int .i64 i)]) (fun _ H=>H) (fun i=>i≤h.n+1∧ ∀T,T<2^h.n→P T=true→i≤rk false h.n T) (fun i=>h.n+1-i) 0 ⟨Nat.zero_le _,fun _ _ _=>Nat.zero_le _⟩ ?_ ?_
  ·exact ent_tau [0,1,2,3,4,5,6,7,8,9] ⟨qZ3,qZ2,rfl⟩
  rintro i ⟨hi,hall⟩
  refine And.intro ?_ (And.intro (fun hc=>?_) (fun hc=>?_))
  ·(repeat' (first|exact tU|exact fun _=>rfl|exact rfl|refine aN ?_ ?_))
  ·have hlt:i≤h.n:=by
    have:=of_decide_eq_true hc
    omega
   (repeat' (first|exact tU|exact fun _=>rfl|exact rfl|refine aN ?_ ?_))
   all_goals first|exact qM0|skip
   intro _
   (repeat' (first|exact tU|exact fun _=>rfl|exact rfl|refine aN ?_ ?_))
   all_goals first|exact qM0|skip
   refine(h67 h hn).use [0] ?_ (qZ3) rfl
   (repeat' (first|exact tU|exact fun _=>rfl|exact rfl|refine aN ?_ ?_))
   all_goals first|exact qM0|skip
   refine loopP E_ok [0,1,2,4,5,6,7,14,15] (fun S:Nat=>[(25,.int .u64 (2^h.n:Nat)),(26,.int .u64 S)]) (fun _ H=>H) (fun S=>S≤2^h.n∧ ∀T,T<2^h.n→P T=true→i<rk false h.n T∨rk false h.n T=i∧S≤T) (fun S=>2^h.n-S) 0 ⟨Nat.zero_le _,fun T a b=>by have:=hall T a b;omega⟩ ?_ ?_
   ·refine ent_tau [0,1,2,3,4,5,6,7,8,9] ⟨qZ3,?_,rfl⟩
    (repeat' (first|exact tU|exact rfl|exact congrArg (SV.int .i64) (Int.natCast_succ _).symm|exact congrArg (SV.int .u64) (Int.natCast_succ _).symm|refine aN ?_ ?_))
    exact congrArg (SV.int .u64) ev1
   rintro S ⟨hS,hal2⟩
   refine And.intro ?_ (And.intro (fun hc2=>?_) (fun hc2=>?_))
   ·(repeat' (first|exact tU|exact fun _=>rfl|exact rfl|refine aN ?_ ?_))
   ·have hlt2:S<2^h.n:=by
     have:=of_decide_eq_true hc2
     omega
    have hpl:=pop_le hn hlt2
    have hyS:=hy S (by omega)
    (repeat' (first|exact tU|exact fun _=>rfl|exact rfl|refine aN ?_ ?_))
    all_goals first|exact qM0|skip
    refine(h92 S (by omega)).use [] ?_ trivial rfl
    refine And.intro ?_ (And.intro (fun hk=>?_) (fun hk=>?_))
    ·(repeat' (first|exact tU|exact fun _=>rfl|exact rfl|refine aN ?_ ?_))
    ·have hk2: ¬((pop S:Nat):Int)=((h.n:Nat):Int)-(i:Nat):=by
      intro e
      have hk3:(!decide (((pop S:Nat):Int)=((h.n:Nat):Int)-(i:Nat)))=true:=hk
      rw[decide_eq_true e]at hk3
      cases hk3
     (repeat' (first|exact tU|exact fun _=>rfl|exact rfl|refine aN ?_ ?_))
     all_goals first|exact qM0|skip
     refine⟨S+1,⟨hlt2,fun T a b=>?_⟩,by omega,?_⟩
     ·rcases hal2 T a b with c|⟨c,d⟩
      ·exact .inl c
      ·refine .inr ⟨c,?_⟩
       by_cases e:T=S
       ·exfalso
        rw[e]at c
        simp only[rk]at c
        omega
       ·omega
     exact ent_tau [0,1,2,3,4,5,6,7,8,9] ⟨qZ3,qZ2,rfl⟩
    ·have hk2:((pop S:Nat):Int)=((h.n:Nat):Int)-(i:Nat):=by
      by_cases e:((pop S:Nat):Int)=((h.n:Nat):Int)-(i:Nat)
      ·exact e
      ·have hk3:(!decide (((pop S:Nat):Int)=((h.n:Nat):Int)-(i:Nat)))=false:=hk
       rw[decide_eq_false e]at hk3
       cases hk3
     have hrk:rk false h.n S=i:=by
      simp only[rk]
      omega
     obtain⟨b,hb⟩: ∃b,P S=b:=⟨_,rfl⟩
     rw[hb]at hyS
     cases b with
     |true=>
      have hS0:S=S0:=by
       have hf:=first_of (up:=false) hn hlt2 hrk hb hal2
       rcases hf.2.2 S0 h0.1 h0.2.1 with e|e
       ·exact e
       ·rcases h0.2.2 S hlt2 hb with e2|e2
        ·exact e2.symm
        ·exfalso
         unfold Prior at e e2
         simp only at e e2
         omega
      subst hS0
      (repeat' (first|exact tU|exact fun _=>rfl|exact rfl|refine aN ?_ ?_))
      refine hyS.use [0,1,2,3,4,5,6,7] ?_ (qZ3) rfl
      (repeat' (first|exact tU|exact fun _=>rfl|exact rfl|refine aN ?_ ?_))
      all_goals first|exact qM0|skip
      intro _
      (repeat' (first|exact tU|exact fun _=>rfl|exact rfl|refine aN ?_ ?_))
      all_goals first|exact qM0|skip
      exact ent_tau [0,1,2,3,4,5,6,7,8,9] ⟨qZ3,qZ2,rfl⟩
     |false=>
      (repeat' (first|exact tU|exact fun _=>rfl|exact rfl|refine aN ?_ ?_))
      refine hyS.use [0,1,2,3,4,5,6,7] ?_ (qZ3) rfl
      (repeat' (first|exact tU|exact fun _=>rfl|exact rfl|refine aN ?_ ?_))
      all_goals first|exact qM0|skip
      intro _
      (repeat' (first|exact tU|exact fun _=>rfl|exact rfl|refine aN ?_ ?_))
      all_goals first|exact qM0|skip
      refine⟨S+1,⟨hlt2,fun T a b=>?_⟩,by omega,?_⟩
      ·rcases hal2 T a b with c|⟨c,d⟩
       ·exact .inl c
       ·refine .inr ⟨c,?_⟩
        by_cases e:T=S
        ·exfalso
         rw[e,hb]at b
         cases b
        ·omega
      exact ent_tau [0,1,2,3,4,5,6,7,8,9] ⟨qZ3,qZ2,rfl⟩
   ·have e:S=2^h.n:=by
     have:=of_decide_eq_false hc2
     omega
    subst e
    (repeat' (first|exact tU|exact fun _=>rfl|exact rfl|refine aN ?_ ?_))
    all_goals first|exact qM0|skip
    refine⟨i+1,⟨by omega,fun T a b=>?_⟩,by omega,?_⟩
    ·rcases hal2 T a b with c|⟨c,d⟩
     ·exact c
     ·omega
    exact ent_tau [0,1,2,3,4,5,6,7,8,9] ⟨qZ3,qZ2,rfl⟩
  ·exfalso
   have e:h.n+1≤i:=by
    have:=of_decide_eq_false hc
    omega
   have a:=hall S0 h0.1 h0.2.1
   have b:=rk_le (up:=false) hn h0.1
   omega
 ·refine callR (E:=E) E_ok Tryz.func181 rfl ?_
  (repeat' (first|exact tU|exact fun _=>rfl|exact rfl|refine aN ?_ ?_))
  all_goals first|exact qM0|skip
  refine loopP E_ok [0,1,2,4,5,14] (fun i:Nat=>[(15,.int .i64 i)]) (fun _ H=>H) (fun i=>i≤h.n+1∧ ∀T,T<2^h.n→P T=true→i≤rk true h.n T) (fun i=>h.n+1-i) 0 ⟨Nat.zero_le _,fun _ _ _=>Nat.zero_le _⟩ ?_ ?_
  ·exact ent_tau [0,1,2,3,4,5,6,7,8,9] ⟨qZ3,qZ2,rfl⟩
  rintro i ⟨hi,hall⟩
  refine And.intro ?_ (And.intro (fun hc=>?_) (fun hc=>?_))
  ·(repeat' (first|exact tU|exact fun _=>rfl|exact rfl|refine aN ?_ ?_))
  ·have hlt:i≤h.n:=by
    have:=of_decide_eq_true hc
    omega
   (repeat' (first|exact tU|exact fun _=>rfl|exact rfl|refine aN ?_ ?_))
   all_goals first|exact qM0|skip
   intro _
   (repeat' (first|exact tU|exact fun _=>rfl|exact rfl|refine aN ?_ ?_))
   all_goals first|exact qM0|skip
   refine(h67 h hn).use [0] ?_ (qZ3) rfl
   (repeat' (first|exact tU|exact fun _=>rfl|exact rfl|refine aN ?_ ?_))
   all_goals first|exact qM0|skip
   refine loopP E_ok [0,1,2,4,5,6,7,14,15] (fun S:Nat=>[(25,.int .u64 (2^h.n:Nat)),(26,.int .u64 S)]) (fun _ H=>H) (fun S=>S≤2^h.n∧ ∀T,T<2^h.n→P T=true→i<rk true h.n T∨rk true h.n T=i∧S≤T) (fun S=>2^h.n-S) 0 ⟨Nat.zero_le _,fun T a b=>by have:=hall T a b;omega⟩ ?_ ?_
   ·refine ent_tau [0,1,2,3,4,5,6,7,8,9] ⟨qZ3,?_,rfl⟩
    (repeat' (first|exact tU|exact rfl|exact congrArg (SV.int .i64) (Int.natCast_succ _).symm|exact congrArg (SV.int .u64) (Int.natCast_succ _).symm|refine aN ?_ ?_))
    exact congrArg (SV.int .u64) ev1
   rintro S ⟨hS,hal2⟩
   refine And.intro ?_ (And.intro (fun hc2=>?_) (fun hc2=>?_))
   ·(repeat' (first|exact tU|exact fun _=>rfl|exact rfl|refine aN ?_ ?_))
   ·have hlt2:S<2^h.n:=by
     have:=of_decide_eq_true hc2
     omega
    have hpl:=pop_le hn hlt2
    have hyS:=hy S (by omega)
    (repeat' (first|exact tU|exact fun _=>rfl|exact rfl|refine aN ?_ ?_))
    all_goals first|exact qM0|skip
    refine(h92 S (by omega)).use [] ?_ trivial rfl
    refine And.intro ?_ (And.intro (fun hk=>?_) (fun hk=>?_))
    ·(repeat' (first|exact tU|exact fun _=>rfl|exact rfl|refine aN ?_ ?_))
    ·have hk2: ¬((pop S:Nat):Int)=((i:Nat):Int):=by
      intro e
      have hk3:(!decide (((pop S:Nat):Int)=((i:Nat):Int)))=true:=hk
      rw[decide_eq_true e]at hk3
      cases hk3
     (repeat' (first|exact tU|exact fun _=>rfl|exact rfl|refine aN ?_ ?_))
     all_goals first|exact qM0|skip
     refine⟨S+1,⟨hlt2,fun T a b=>?_⟩,by omega,?_⟩
     ·rcases hal2 T a b with c|⟨c,d⟩
      ·exact .inl c
      ·refine .inr ⟨c,?_⟩
       by_cases e:T=S
       ·exfalso
        rw[e]at c
        simp only[rk]at c
        omega
       ·omega
     exact ent_tau [0,1,2,3,4,5,6,7,8,9] ⟨qZ3,qZ2,rfl⟩
    ·have hk2:((pop S:Nat):Int)=((i:Nat):Int):=by
      by_cases e:((pop S:Nat):Int)=((i:Nat):Int)
      ·exact e
      ·have hk3:(!decide (((pop S:Nat):Int)=((i:Nat):Int)))=false:=hk
       rw[decide_eq_false e]at hk3
       cases hk3
     have hrk:rk true h.n S=i:=by
      simp only[rk]
      omega
     obtain⟨b,hb⟩: ∃b,P S=b:=⟨_,rfl⟩
     rw[hb]at hyS
     cases b with
     |true=>
      have hS0:S=S0:=by
       have hf:=first_of (up:=true) hn hlt2 hrk hb hal2
       rcases hf.2.2 S0 h0.1 h0.2.1 with e|e
       ·exact e
       ·rcases h0.2.2 S hlt2 hb with e2|e2
        ·exact e2.symm
        ·exfalso
         unfold Prior at e e2
         simp only at e e2
         omega
      subst hS0
      (repeat' (first|exact tU|exact fun _=>rfl|exact rfl|refine aN ?_ ?_))
      refine hyS.use [0,1,2,3,4,5,6,7] ?_ (qZ3) rfl
      (repeat' (first|exact tU|exact fun _=>rfl|exact rfl|refine aN ?_ ?_))
      all_goals first|exact qM0|skip
      intro _
      (repeat' (first|exact tU|exact fun _=>rfl|exact rfl|refine aN ?_ ?_))
      all_goals first|exact qM0|skip
      exact ent_tau [0,1,2,3,4,5,6,7,8,9] ⟨qZ3,qZ2,rfl⟩
     |false=>
      (repeat' (first|exact tU|exact fun _=>rfl|exact rfl|refine aN ?_ ?_))
      refine hyS.use [0,1,2,3,4,5,6,7] ?_ (qZ3) rfl
      (repeat' (first|exact tU|exact fun _=>rfl|exact rfl|refine aN ?_ ?_))
      all_goals first|exact qM0|skip
      intro _
      (repeat' (first|exact tU|exact fun _=>rfl|exact rfl|refine aN ?_ ?_))
      all_goals first|exact qM0|skip
      refine⟨S+1,⟨hlt2,fun T a b=>?_⟩,by omega,?_⟩
      ·rcases hal2 T a b with c|⟨c,d⟩
       ·exact .inl c
       ·refine .inr ⟨c,?_⟩
        by_cases e:T=S
        ·exfalso
         rw[e,hb]at b
         cases b
        ·omega
      exact ent_tau [0,1,2,3,4,5,6,7,8,9] ⟨qZ3,qZ2,rfl⟩
   ·have e:S=2^h.n:=by
     have:=of_decide_eq_false hc2
     omega
    subst e
    (repeat' (first|exact tU|exact fun _=>rfl|exact rfl|refine aN ?_ ?_))
    all_goals first|exact qM0|skip
    refine⟨i+1,⟨by omega,fun T a b=>?_⟩,by omega,?_⟩
    ·rcases hal2 T a b with c|⟨c,d⟩
     ·exact c
     ·omega
    exact ent_tau [0,1,2,3,4,5,6,7,8,9] ⟨qZ3,qZ2,rfl⟩
  ·exfalso
   have e:h.n+1≤i:=by
    have:=of_decide_eq_false hc
    omega
   have a:=hall S0 h0.1 h0.2.1
   have b:=rk_le (up:=true) hn h0.1
   omega
 ·refine callR (E:=E) E_ok Tryz.func181 rfl ?_
  (repeat' (first|exact tU|exact fun _=>rfl|exact rfl|refine aN ?_ ?_))
  all_goals first|exact qM0|skip
  refine loopP E_ok [0,1,2,4,5,14] (fun i:Nat=>[(15,.int .i64 i)]) (fun _ H=>H) (fun i=>i≤h.n+1∧ ∀T,T<2^h.n→P T=true→i≤rk false h.n T) (fun i=>h.n+1-i) 0 ⟨Nat.zero_le _,fun _ _ _=>Nat.zero_le _⟩ ?_ ?_
  ·exact ent_tau [0,1,2,3,4,5,6,7,8,9] ⟨qZ3,qZ2,rfl⟩
  rintro i ⟨hi,hall⟩
  refine And.intro ?_ (And.intro (fun hc=>?_) (fun hc=>?_))
  ·(repeat' (first|exact tU|exact fun _=>rfl|exact rfl|refine aN ?_ ?_))
  ·have hlt:i≤h.n:=by
    have:=of_decide_eq_true hc
    omega
   (repeat' (first|exact tU|exact fun _=>rfl|exact rfl|refine aN ?_ ?_))
   all_goals first|exact qM0|skip
   intro _
   (repeat' (first|exact tU|exact fun _=>rfl|exact rfl|refine aN ?_ ?_))
   all_goals first|exact qM0|skip
   refine(h67 h hn).use [0] ?_ (qZ3) rfl
   (repeat' (first|exact tU|exact fun _=>rfl|exact rfl|refine aN ?_ ?_))
   all_goals first|exact qM0|skip
   refine loopP E_ok [0,1,2,4,5,6,7,14,15] (fun S:Nat=>[(25,.int .u64 (2^h.n:Nat)),(26,.int .u64 S)]) (fun _ H=>H) (fun S=>S≤2^h.n∧ ∀T,T<2^h.n→P T=true→i<rk false h.n T∨rk false h.n T=i∧S≤T) (fun S=>2^h.n-S) 0 ⟨Nat.zero_le _,fun T a b=>by have:=hall T a b;omega⟩ ?_ ?_
   ·refine ent_tau [0,1,2,3,4,5,6,7,8,9] ⟨qZ3,?_,rfl⟩
    (repeat' (first|exact tU|exact rfl|exact congrArg (SV.int .i64) (Int.natCast_succ _).symm|exact congrArg (SV.int .u64) (Int.natCast_succ _).symm|refine aN ?_ ?_))
    exact congrArg (SV.int .u64) ev1
   rintro S ⟨hS,hal2⟩
   refine And.intro ?_ (And.intro (fun hc2=>?_) (fun hc2=>?_))
   ·(repeat' (first|exact tU|exact fun _=>rfl|exact rfl|refine aN ?_ ?_))
   ·have hlt2:S<2^h.n:=by
     have:=of_decide_eq_true hc2
     omega
    have hpl:=pop_le hn hlt2
    have hyS:=hy S (by omega)
    (repeat' (first|exact tU|exact fun _=>rfl|exact rfl|refine aN ?_ ?_))
    all_goals first|exact qM0|skip
    refine(h92 S (by omega)).use [] ?_ trivial rfl
    refine And.intro ?_ (And.intro (fun hk=>?_) (fun hk=>?_))
    ·(repeat' (first|exact tU|exact fun _=>rfl|exact rfl|refine aN ?_ ?_))
    ·have hk2: ¬((pop S:Nat):Int)=((h.n:Nat):Int)-(i:Nat):=by
      intro e
      have hk3:(!decide (((pop S:Nat):Int)=((h.n:Nat):Int)-(i:Nat)))=true:=hk
      rw[decide_eq_true e]at hk3
      cases hk3
     (repeat' (first|exact tU|exact fun _=>rfl|exact rfl|refine aN ?_ ?_))
     all_goals first|exact qM0|skip
     refine⟨S+1,⟨hlt2,fun T a b=>?_⟩,by omega,?_⟩
     ·rcases hal2 T a b with c|⟨c,d⟩
      ·exact .inl c
      ·refine .inr ⟨c,?_⟩
       by_cases e:T=S
       ·exfalso
        rw[e]at c
        simp only[rk]at c
        omega
       ·omega
     exact ent_tau [0,1,2,3,4,5,6,7,8,9] ⟨qZ3,qZ2,rfl⟩
    ·have hk2:((pop S:Nat):Int)=((h.n:Nat):Int)-(i:Nat):=by
      by_cases e:((pop S:Nat):Int)=((h.n:Nat):Int)-(i:Nat)
      ·exact e
      ·have hk3:(!decide (((pop S:Nat):Int)=((h.n:Nat):Int)-(i:Nat)))=false:=hk
       rw[decide_eq_false e]at hk3
       cases hk3
     have hrk:rk false h.n S=i:=by
      simp only[rk]
      omega
     obtain⟨b,hb⟩: ∃b,P S=b:=⟨_,rfl⟩
     rw[hb]at hyS
     cases b with
     |true=>
      have hS0:S=S0:=by
       have hf:=first_of (up:=false) hn hlt2 hrk hb hal2
       rcases hf.2.2 S0 h0.1 h0.2.1 with e|e
       ·exact e
       ·rcases h0.2.2 S hlt2 hb with e2|e2
        ·exact e2.symm
        ·exfalso
         unfold Prior at e e2
         simp only at e e2
         omega
      subst hS0
      (repeat' (first|exact tU|exact fun _=>rfl|exact rfl|refine aN ?_ ?_))
      refine hyS.use [0,1,2,3,4,5,6,7] ?_ (qZ3) rfl
      (repeat' (first|exact tU|exact fun _=>rfl|exact rfl|refine aN ?_ ?_))
      all_goals first|exact qM0|skip
      intro _
      (repeat' (first|exact tU|exact fun _=>rfl|exact rfl|refine aN ?_ ?_))
      all_goals first|exact qM0|skip
      exact ent_tau [0,1,2,3,4,5,6,7,8,9] ⟨qZ3,qZ2,rfl⟩
     |false=>
      (repeat' (first|exact tU|exact fun _=>rfl|exact rfl|refine aN ?_ ?_))
      refine hyS.use [0,1,2,3,4,5,6,7] ?_ (qZ3) rfl
      (repeat' (first|exact tU|exact fun _=>rfl|exact rfl|refine aN ?_ ?_))
      all_goals first|exact qM0|skip
      intro _
      (repeat' (first|exact tU|exact fun _=>rfl|exact rfl|refine aN ?_ ?_))
      all_goals first|exact qM0|skip
      refine⟨S+1,⟨hlt2,fun T a b=>?_⟩,by omega,?_⟩
      ·rcases hal2 T a b with c|⟨c,d⟩
       ·exact .inl c
       ·refine .inr ⟨c,?_⟩
        by_cases e:T=S
        ·exfalso
         rw[e,hb]at b
         cases b
        ·omega
      exact ent_tau [0,1,2,3,4,5,6,7,8,9] ⟨qZ3,qZ2,rfl⟩
   ·have e:S=2^h.n:=by
     have:=of_decide_eq_false hc2
     omega
    subst e
    (repeat' (first|exact tU|exact fun _=>rfl|exact rfl|refine aN ?_ ?_))
    all_goals first|exact qM0|skip
    refine⟨i+1,⟨by omega,fun T a b=>?_⟩,by omega,?_⟩
    ·rcases hal2 T a b with c|⟨c,d⟩
     ·exact c
     ·omega
    exact ent_tau [0,1,2,3,4,5,6,7,8,9] ⟨qZ3,qZ2,rfl⟩
  ·exfalso
   have e:h.n+1≤i:=by
    have:=of_decide_eq_false hc
    omega
   have a:=hall S0 h0.1 h0.2.1
   have b:=rk_le (up:=false) hn h0.1
   omega
 ·refine callR (E:=E) E_ok Tryz.func181 rfl ?_
  (repeat' (first|exact tU|exact fun _=>rfl|exact rfl|refine aN ?_ ?_))
  all_goals first|exact qM0|skip
  refine loopP E_ok [0,1,2,4,5,14] (fun i:Nat=>[(15,.int .i64 i)]) (fun _ H=>H) (fun i=>i≤h.n+1∧ ∀T,T<2^h.n→P T=true→i≤rk true h.n T) (fun i=>h.n+1-i) 0 ⟨Nat.zero_le _,fun _ _ _=>Nat.zero_le _⟩ ?_ ?_
  ·exact ent_tau [0,1,2,3,4,5,6,7,8,9] ⟨qZ3,qZ2,rfl⟩
  rintro i ⟨hi,hall⟩
  refine And.intro ?_ (And.intro (fun hc=>?_) (fun hc=>?_))
  ·(repeat' (first|exact tU|exact fun _=>rfl|exact rfl|refine aN ?_ ?_))
  ·have hlt:i≤h.n:=by
    have:=of_decide_eq_true hc
    omega
   (repeat' (first|exact tU|exact fun _=>rfl|exact rfl|refine aN ?_ ?_))
   all_goals first|exact qM0|skip
   intro _
   (repeat' (first|exact tU|exact fun _=>rfl|exact rfl|refine aN ?_ ?_))
   all_goals first|exact qM0|skip
   refine(h67 h hn).use [0] ?_ (qZ3) rfl
   (repeat' (first|exact tU|exact fun _=>rfl|exact rfl|refine aN ?_ ?_))
   all_goals first|exact qM0|skip
   refine loopP E_ok [0,1,2,4,5,6,7,14,15] (fun S:Nat=>[(25,.int .u64 (2^h.n:Nat)),(26,.int .u64 S)]) (fun _ H=>H) (fun S=>S≤2^h.n∧ ∀T,T<2^h.n→P T=true→i<rk true h.n T∨rk true h.n T=i∧S≤T) (fun S=>2^h.n-S) 0 ⟨Nat.zero_le _,fun T a b=>by have:=hall T a b;omega⟩ ?_ ?_
   ·refine ent_tau [0,1,2,3,4,5,6,7,8,9] ⟨qZ3,?_,rfl⟩
    (repeat' (first|exact tU|exact rfl|exact congrArg (SV.int .i64) (Int.natCast_succ _).symm|exact congrArg (SV.int .u64) (Int.natCast_succ _).symm|refine aN ?_ ?_))
    exact congrArg (SV.int .u64) ev1
   rintro S ⟨hS,hal2⟩
   refine And.intro ?_ (And.intro (fun hc2=>?_) (fun hc2=>?_))
   ·(repeat' (first|exact tU|exact fun _=>rfl|exact rfl|refine aN ?_ ?_))
   ·have hlt2:S<2^h.n:=by
     have:=of_decide_eq_true hc2
     omega
    have hpl:=pop_le hn hlt2
    have hyS:=hy S (by omega)
    (repeat' (first|exact tU|exact fun _=>rfl|exact rfl|refine aN ?_ ?_))
    all_goals first|exact qM0|skip
    refine(h92 S (by omega)).use [] ?_ trivial rfl
    refine And.intro ?_ (And.intro (fun hk=>?_) (fun hk=>?_))
    ·(repeat' (first|exact tU|exact fun _=>rfl|exact rfl|refine aN ?_ ?_))
    ·have hk2: ¬((pop S:Nat):Int)=((i:Nat):Int):=by
      intro e
      have hk3:(!decide (((pop S:Nat):Int)=((i:Nat):Int)))=true:=hk
      rw[decide_eq_true e]at hk3
      cases hk3
     (repeat' (first|exact tU|exact fun _=>rfl|exact rfl|refine aN ?_ ?_))
     all_goals first|exact qM0|skip
     refine⟨S+1,⟨hlt2,fun T a b=>?_⟩,by omega,?_⟩
     ·rcases hal2 T a b with c|⟨c,d⟩
      ·exact .inl c
      ·refine .inr ⟨c,?_⟩
       by_cases e:T=S
       ·exfalso
        rw[e]at c
        simp only[rk]at c
        omega
       ·omega
     exact ent_tau [0,1,2,3,4,5,6,7,8,9] ⟨qZ3,qZ2,rfl⟩
    ·have hk2:((pop S:Nat):Int)=((i:Nat):Int):=by
      by_cases e:((pop S:Nat):Int)=((i:Nat):Int)
      ·exact e
      ·have hk3:(!decide (((pop S:Nat):Int)=((i:Nat):Int)))=false:=hk
       rw[decide_eq_false e]at hk3
       cases hk3
     have hrk:rk true h.n S=i:=by
      simp only[rk]
      omega
     obtain⟨b,hb⟩: ∃b,P S=b:=⟨_,rfl⟩
     rw[hb]at hyS
     cases b with
     |true=>
      have hS0:S=S0:=by
       have hf:=first_of (up:=true) hn hlt2 hrk hb hal2
       rcases hf.2.2 S0 h0.1 h0.2.1 with e|e
       ·exact e
       ·rcases h0.2.2 S hlt2 hb with e2|e2
        ·exact e2.symm
        ·exfalso
         unfold Prior at e e2
         simp only at e e2
         omega
      subst hS0
      (repeat' (first|exact tU|exact fun _=>rfl|exact rfl|refine aN ?_ ?_))
      refine hyS.use [0,1,2,3,4,5,6,7] ?_ (qZ3) rfl
      (repeat' (first|exact tU|exact fun _=>rfl|exact rfl|refine aN ?_ ?_))
      all_goals first|exact qM0|skip
      intro _
      (repeat' (first|exact tU|exact fun _=>rfl|exact rfl|refine aN ?_ ?_))
      all_goals first|exact qM0|skip
      exact ent_tau [0,1,2,3,4,5,6,7,8,9] ⟨qZ3,qZ2,rfl⟩
     |false=>
      (repeat' (first|exact tU|exact fun _=>rfl|exact rfl|refine aN ?_ ?_))
      refine hyS.use [0,1,2,3,4,5,6,7] ?_ (qZ3) rfl
      (repeat' (first|exact tU|exact fun _=>rfl|exact rfl|refine aN ?_ ?_))
      all_goals first|exact qM0|skip
      intro _
      (repeat' (first|exact tU|exact fun _=>rfl|exact rfl|refine aN ?_ ?_))
      all_goals first|exact qM0|skip
      refine⟨S+1,⟨hlt2,fun T a b=>?_⟩,by omega,?_⟩
      ·rcases hal2 T a b with c|⟨c,d⟩
       ·exact .inl c
       ·refine .inr ⟨c,?_⟩
        by_cases e:T=S
        ·exfalso
         rw[e,hb]at b
         cases b
        ·omega
      exact ent_tau [0,1,2,3,4,5,6,7,8,9] ⟨qZ3,qZ2,rfl⟩
   ·have e:S=2^h.n:=by
     have:=of_decide_eq_false hc2
     omega
    subst e
    (repeat' (first|exact tU|exact fun _=>rfl|exact rfl|refine aN ?_ ?_))
    all_goals first|exact qM0|skip
    refine⟨i+1,⟨by omega,fun T a b=>?_⟩,by omega,?_⟩
    ·rcases hal2 T a b with c|⟨c,d⟩
     ·exact c
     ·omega
    exact ent_tau [0,1,2,3,4,5,6,7,8,9] ⟨qZ3,qZ2,rfl⟩
  ·exfalso
   have e:h.n+1≤i:=by
    have:=of_decide_eq_false hc
    omega
   have a:=hall S0 h0.1 h0.2.1
   have b:=rk_le (up:=true) hn h0.1
   omega
end Go.Proofs.YthnhlkflkidemaaGreatDoor
