/-
  Parts: TiB7, TiB8, TiB9, TiB10.
-/
import Derived.Test.YthnhlkflkidemaaGreatDoorB22
import Derived.Test.YthnhlkflkidemaaGreatDoorB21
set_option linter.unusedVariables false
set_option linter.unusedSimpArgs false
/-
 Contracts: the span of a number of all truths.
-/
namespace Go.Proofs.YthnhlkflkidemaaGreatDoor
open Go Go.Sy
set_option maxRecDepth 100000
set_option maxHeartbeats 4000000
attribute [local irreducible] CallP CodeP Ent YieldP
set_option maxHeartbeats 800000
def pl112s:Plan:=eg [15,16,17]<| .alt 18 .done .no
def pl162_4s:Plan:=eg [0,1,2,3,4,6,8,9,10,11]<| .eager 13<|
 .alt 5 (.eager 7<| .alt 12 (.eager 14<|pl112s) .no) (.alt 12 (.eager 14<| .alt 5 (.eager 7<|pl112s) .no) .no)
def nz:Nat→Bool
 |0=>false
 |_+1=>true
def seeLo(sm:Bool)(lo a:Int):Int:=if sm=true then(if lo≤a then lo else a)else a
def seeHi(sm:Bool)(hi b:Int):Int:=if sm=true then(if b≤hi then hi else b)else b
def hulLo(a:Tr→Int)(g:List Tr):Nat→Int
 |0=>0
 |k+1=>seeLo (nz k) (hulLo a g k) (a (g.getD k tr0))
def hulHi(b:Tr→Int)(g:List Tr):Nat→Int
 |0=>0
 |k+1=>seeHi (nz k) (hulHi b g k) (b (g.getD k tr0))
theorem getD_mem{g:List Tr}{k:Nat}(h:k<g.length):g.getD k tr0∈g:=by
 rw[List.getD_eq_getElem?_getD,List.getElem?_eq_getElem h];exact List.getElem_mem h
theorem cells_eq{lo hi lo' hi':Int}{f:Nat}{caps:List SV}(h1:lo=lo')(h2:hi=hi'):[SV.int .i64 lo,SV.int .i64 hi,SV.bool true,SV.fn (.func f) [] caps]=[SV.int .i64 lo',SV.int .i64 hi',SV.bool true,SV.fn (.func f) [] caps]:=by
 subst h1 h2;rfl
theorem u73(t:TD)(hv:t.Valid)(m:Int)(hm:t.isMin m)(x:Tr)(hx:goodTr t x):CallP Tryz.prog 189 [trv x,.ptr 6 0,.ptr 7 0]
  [some (.roc [.osl t.bM 1 3 t.nM t.cM,.osl t.bS 2 2 t.nS t.cS,.osl t.bL 3 4 t.nL t.cL,.map 4]),
 some (.roa 3 t.nM (row3 t.mi t.mlo t.mhi)),some (.roa 2 t.nS (row2 t.slo t.shi)),some (.roa 4 t.nL (row4 t.lp t.lm t.llo t.lhi)),some (.memo 5 t.F []),
 some (.glob 1 [.int .i64 0,.int .i64 1,.int .i64 3,.int .i64 6,.int .i64 9,.int .i64 11,.int .i64 12]),some (.roc [.ptr 0 0]),some (.roc [.int .i64 m])] (Ret (.tup [.int .i64 (t.stand x.h m),.int .i64 (t.stand x.h m)]) [some (.roc [.osl t.bM 1 3 t.nM t.cM,.osl t.bS 2 2 t.nS t.cS,.osl t.bL 3 4 t.nL t.cL,.map 4]),
 some (.roa 3 t.nM (row3 t.mi t.mlo t.mhi)),some (.roa 2 t.nS (row2 t.slo t.shi)),some (.roa 4 t.nL (row4 t.lp t.lm t.llo t.lhi)),some (.memo 5 t.F []),
 some (.glob 1 [.int .i64 0,.int .i64 1,.int .i64 3,.int .i64 6,.int .i64 9,.int .i64 11,.int .i64 12]),some (.roc [.ptr 0 0]),some (.roc [.int .i64 m])]):=by
 refine callR (E:=E) E_ok Tryz.func189 rfl ?_
 refine aN ?_ ?_
 ·exact sA
 refine(u74 t hv x.h hx.1 m hm).use [0,1,2,3,4,5] ?_ (qZ0) rfl
 refine aN ?_ ?_
 ·exact sA
 exact ent_tau [0,1,2,3,4,5,6,7] ⟨qZ0,qZ1,rfl⟩
theorem s4_get(x:Tr)(p:Nat)(hp:p<4):([x.s 0,x.s 1,x.s 2,x.s 3]:List Int).getD (p:Int).toNat 0=x.s p:=by
 have e:(p:Int).toNat=p:=by omega
 rw[e];exact h4_get x.s p hp
theorem u85(t:TD)(hv:t.Valid)(p:Nat)(hp:p<t.nS)(x:Tr)(hx:fullTr t x):CallP Tryz.prog 103 [trv x,.ptr 0 0] [some (.roc [.int .i64 p]),some db] (Ret (.tup [.int .i64 (loE (x.s p)),.int .i64 (hiE (x.s p))]) [some (.roc [.int .i64 p]),some db]):=by
 have hS:=hv.2.1;refine callR (E:=E) E_ok Tryz.func103 rfl ?_;refine aN ?_ ?_
 ·simp[AllP,under,gB,wB,inR_iff,IntKind.bits];omega
 rw[s4_get x p (by omega)];refine(u86 (x.s p) (hx.2 p hp)).use [1] ?_ (qZ0) rfl;refine aN ?_ ?_
 ·exact sA
 exact ent_tau [0,1] ⟨qZ0,qZ1,rfl⟩
theorem u98(t:TD)(hv:t.Valid)(m:Int)(p:Nat)(hm:t.isMin m)(hp:p<t.nS)(x:Tr)(hx:fullTr t x):CallP Tryz.prog 169 [trv x,.ptr 6 0,.ptr 7 0,.ptr 8 0]
  [some (.roc [.osl t.bM 1 3 t.nM t.cM,.osl t.bS 2 2 t.nS t.cS,.osl t.bL 3 4 t.nL t.cL,.map 4]),
 some (.roa 3 t.nM (row3 t.mi t.mlo t.mhi)),some (.roa 2 t.nS (row2 t.slo t.shi)),some (.roa 4 t.nL (row4 t.lp t.lm t.llo t.lhi)),some (.memo 5 t.F []),
 some (.glob 1 [.int .i64 0,.int .i64 1,.int .i64 3,.int .i64 6,.int .i64 9,.int .i64 11,.int .i64 12]),some (.roc [.ptr 0 0]),some (.roc [.int .i64 m]),some (.roc [.int .i64 p]),some db]
  (Ret (.tup [.int .i64 (max0 (t.stand x.h m-hiE (x.s p))),.int .i64 (max0 (t.stand x.h m-loE (x.s p)))]) [some (.roc [.osl t.bM 1 3 t.nM t.cM,.osl t.bS 2 2 t.nS t.cS,.osl t.bL 3 4 t.nL t.cL,.map 4]),
 some (.roa 3 t.nM (row3 t.mi t.mlo t.mhi)),some (.roa 2 t.nS (row2 t.slo t.shi)),some (.roa 4 t.nL (row4 t.lp t.lm t.llo t.lhi)),some (.memo 5 t.F []),
 some (.glob 1 [.int .i64 0,.int .i64 1,.int .i64 3,.int .i64 6,.int .i64 9,.int .i64 11,.int .i64 12]),some (.roc [.ptr 0 0]),some (.roc [.int .i64 m]),some (.roc [.int .i64 p]),some db]):=by
 have hS:=hv.2.1
 have hw:=stand_range hv hm hx.1.1
 obtain⟨f1,f2,f3,f4,f5⟩:=few_facts (hx.2 p hp)
 have hlo:0≤loE (x.s p)∧loE (x.s p)≤hiE (x.s p)∧hiE (x.s p)≤63:=f4
 refine callR (E:=E) E_ok Tryz.func169 rfl ?_
 refine aN ?_ ?_
 ·exact sA
 refine(u74 t hv x.h hx.1.1 m hm).use [0,1,2,3,4,5] ?_ (qZ0) rfl
 refine aN ?_ ?_
 ·simp[AllP,under,gB,wB,inR_iff,IntKind.bits]
  omega
 rw[s4_get x p (by omega)]
 refine(u86 (x.s p) (hx.2 p hp)).use [9] ?_ (qZ0) rfl
 refine aN ?_ ?_
 ·simp[AllP,under,gB,wB,inR_iff,IntKind.bits]
  omega
 exact ent_tau [0,1,2,3,4,5,6,7,8,9] ⟨qZ0,qZ1,rfl⟩
def a73(t:TD)(m:Int)(x:Tr):Int:=t.stand x.h m
def b73(t:TD)(m:Int)(x:Tr):Int:=t.stand x.h m
theorem see73(t:TD)(hv:t.Valid)(m:Int)(hm:t.isMin m)(x:Tr)(hx:fullTr t x)(lo hi:Int)(sm:Bool):
  CallP Tryz.prog 162 [.ptr 8 0,trv x] [some (.roc [.osl t.bM 1 3 t.nM t.cM,.osl t.bS 2 2 t.nS t.cS,.osl t.bL 3 4 t.nL t.cL,.map 4]),
 some (.roa 3 t.nM (row3 t.mi t.mlo t.mhi)),some (.roa 2 t.nS (row2 t.slo t.shi)),some (.roa 4 t.nL (row4 t.lp t.lm t.llo t.lhi)),some (.memo 5 t.F []),
 some (.glob 1 [.int .i64 0,.int .i64 1,.int .i64 3,.int .i64 6,.int .i64 9,.int .i64 11,.int .i64 12]),
 some (.roc [.ptr 0 0]),some (.roc [.int .i64 m]),some (.cells [.int .i64 lo,.int .i64 hi,.bool sm,.fn (.func 189) [] [.ptr 6 0,.ptr 7 0]])]
   (Ret (.tup []) [some (.roc [.osl t.bM 1 3 t.nM t.cM,.osl t.bS 2 2 t.nS t.cS,.osl t.bL 3 4 t.nL t.cL,.map 4]),
 some (.roa 3 t.nM (row3 t.mi t.mlo t.mhi)),some (.roa 2 t.nS (row2 t.slo t.shi)),some (.roa 4 t.nL (row4 t.lp t.lm t.llo t.lhi)),some (.memo 5 t.F []),
 some (.glob 1 [.int .i64 0,.int .i64 1,.int .i64 3,.int .i64 6,.int .i64 9,.int .i64 11,.int .i64 12]),
 some (.roc [.ptr 0 0]),some (.roc [.int .i64 m]),some (.cells [.int .i64 (seeLo sm lo (a73 t m x)),.int .i64 (seeHi sm hi (b73 t m x)),.bool true,.fn (.func 189) [] [.ptr 6 0,.ptr 7 0]])]):=by
 refine callR (E:=E) E_ok Tryz.func162 rfl ?_
 refine aN ?_ ?_
 ·exact sA
 refine drawP E_ok [8,9] pl162_1 (by kernel_rfl) ?_
 refine And.intro (And.intro ?_ ?_) trivial
 ·exact sA
 refine(u73 t hv m hm x hx.1).use [0,1,2,3,4,5,6,7] ?_ (qZ0) rfl
 refine And.intro ?_ (And.intro rfl ?_)
 ·exact sA
 refine And.intro ?_ (And.intro (fun hs=>?_) (fun hs=>?_))
 ·exact sA
 ·have hs':sm=false:=by simpa using hs
  subst hs'
  refine aN ?_ ?_
  ·exact sA
  refine drawP E_ok [] pl162_4s (by kernel_rfl) ?_
  refine And.intro (And.intro (And.intro ?_ trivial) trivial) (And.intro (And.intro (And.intro ?_ trivial) trivial) trivial)
  ·refine aN ?_ ?_
   ·exact sA
   refine aN ?_ ?_
   ·exact rfl
   refine aN ?_ ?_
   ·exact sA
   refine ent_tau [0,1,2,3,4,5,6,7,8] ⟨?_,qZ1,rfl⟩
   (repeat' (first|exact tU|exact rfl|exact fun _ _=>rfl|exact Or.inl rfl|refine aN ?_ ?_))
   refine cells_eq ?_ ?_
   ·simp only[seeLo,a73,reduceCtorEq,if_true,if_false]
    try(repeat' split)
    all_goals omega
   ·simp only[seeHi,b73,reduceCtorEq,if_true,if_false]
    try(repeat' split)
    all_goals omega
  ·refine aN ?_ ?_
   ·exact sA
   refine aN ?_ ?_
   ·exact rfl
   refine aN ?_ ?_
   ·exact sA
   refine ent_tau [0,1,2,3,4,5,6,7,8] ⟨?_,qZ1,rfl⟩
   (repeat' (first|exact tU|exact rfl|exact fun _ _=>rfl|exact Or.inl rfl|refine aN ?_ ?_))
   refine cells_eq ?_ ?_
   ·simp only[seeLo,a73,reduceCtorEq,if_true,if_false]
    try(repeat' split)
    all_goals omega
   ·simp only[seeHi,b73,reduceCtorEq,if_true,if_false]
    try(repeat' split)
    all_goals omega
 ·have hs':sm=true:=by simpa using hs
  subst hs'
  refine aN ?_ ?_
  ·exact sA
  refine drawP E_ok [] pl162_4s (by kernel_rfl) ?_
  refine And.intro (And.intro (And.intro ?_ trivial) trivial) (And.intro (And.intro (And.intro ?_ trivial) trivial) trivial)
  ·refine aN ?_ ?_
   ·exact sA
   refine aN ?_ ?_
   ·exact rfl
   refine aN ?_ ?_
   ·exact sA
   refine ent_tau [0,1,2,3,4,5,6,7,8] ⟨?_,qZ1,rfl⟩
   (repeat' (first|exact tU|exact rfl|exact fun _ _=>rfl|exact Or.inl rfl|refine aN ?_ ?_))
   refine cells_eq ?_ ?_
   ·simp only[seeLo,a73,reduceCtorEq,if_true,if_false]
    try(repeat' split)
    all_goals omega
   ·simp only[seeHi,b73,reduceCtorEq,if_true,if_false]
    try(repeat' split)
    all_goals omega
  ·refine aN ?_ ?_
   ·exact sA
   refine aN ?_ ?_
   ·exact rfl
   refine aN ?_ ?_
   ·exact sA
   refine ent_tau [0,1,2,3,4,5,6,7,8] ⟨?_,qZ1,rfl⟩
   (repeat' (first|exact tU|exact rfl|exact fun _ _=>rfl|exact Or.inl rfl|refine aN ?_ ?_))
   refine cells_eq ?_ ?_
   ·simp only[seeLo,a73,reduceCtorEq,if_true,if_false]
    try(repeat' split)
    all_goals omega
   ·simp only[seeHi,b73,reduceCtorEq,if_true,if_false]
    try(repeat' split)
    all_goals omega
theorem span73(t:TD)(hv:t.Valid)(m:Int)(hm:t.isMin m)(g:List Tr)(hg: ∀x∈g,fullTr t x)(hl:g.length≤1000)(cp:Nat):
  CallP Tryz.prog 101 [.slice 8 8 0 g.length cp,.fn (.func 189) [] [.ptr 6 0,.ptr 7 0]] [some (.roc [.osl t.bM 1 3 t.nM t.cM,.osl t.bS 2 2 t.nS t.cS,.osl t.bL 3 4 t.nL t.cL,.map 4]),
 some (.roa 3 t.nM (row3 t.mi t.mlo t.mhi)),some (.roa 2 t.nS (row2 t.slo t.shi)),some (.roa 4 t.nL (row4 t.lp t.lm t.llo t.lhi)),some (.memo 5 t.F []),
 some (.glob 1 [.int .i64 0,.int .i64 1,.int .i64 3,.int .i64 6,.int .i64 9,.int .i64 11,.int .i64 12]),
 some (.roc [.ptr 0 0]),some (.roc [.int .i64 m]),some (.roa 8 g.length (rows g))]
   (Ret (.agg [.int .i64 (hulLo (a73 t m) g g.length),.int .i64 (hulHi (b73 t m) g g.length)]) [some (.roc [.osl t.bM 1 3 t.nM t.cM,.osl t.bS 2 2 t.nS t.cS,.osl t.bL 3 4 t.nL t.cL,.map 4]),
 some (.roa 3 t.nM (row3 t.mi t.mlo t.mhi)),some (.roa 2 t.nS (row2 t.slo t.shi)),some (.roa 4 t.nL (row4 t.lp t.lm t.llo t.lhi)),some (.memo 5 t.F []),
 some (.glob 1 [.int .i64 0,.int .i64 1,.int .i64 3,.int .i64 6,.int .i64 9,.int .i64 11,.int .i64 12]),
 some (.roc [.ptr 0 0]),some (.roc [.int .i64 m]),some (.roa 8 g.length (rows g))]):=by
 refine callR (E:=E) E_ok Tryz.func101 rfl ?_
 refine aN ?_ ?_
 ·exact sA
 refine loopP E_ok [0,1,4,5,10,11] (fun k:Nat=>[(12,.int .i64 k)]) (fun k H=>H.set 10 (some (.cells [.int .i64 (hulLo (a73 t m) g k),.int .i64 (hulHi (b73 t m) g k),.bool (nz k),.fn (.func 189) [] [.ptr 6 0,.ptr 7 0]])))
  (fun k=>k≤g.length) (fun k=>g.length-k) 0 (Nat.zero_le _) ?_ ?_
 ·exact ent_tau [0,1,2,3,4,5,6,7,8,9,10] ⟨qZ0,qZ1,rfl⟩
 ·intro k hk
  refine And.intro ?_ (And.intro (fun hlt=>?_) (fun hlt=>?_))
  ·exact sA
  ·have hlt':k<g.length:=by simpa using hlt
   have ek:(0+(k:Int).toNat)=k:=by omega
   have hgk:=hg _ (getD_mem hlt')
   refine aN ?_ ?_
   ·simp[AllP,under,gB,wB,inR_iff,IntKind.bits]
    omega
   rw[ek]
   refine(see73 t hv m hm (g.getD k tr0) hgk _ _ _).use [0,1,2,3,4,5,6,7,10] ?_ (qZ0) rfl
   refine And.intro ?_ ⟨k+1,hlt',by omega,?_⟩
   ·simp[AllP,under,gB,wB,inR_iff,IntKind.bits]
    omega
   ·exact ent_tau [0,1,2,3,4,5,6,7,8,9,10] ⟨qZ0,qZ1,rfl⟩
  ·have hkl:k=g.length:=by
    have: ¬(k<g.length):=by simpa using hlt
    omega
   subst hkl
   refine aN ?_ ?_
   ·exact sA
   refine And.intro trivial ?_
   exact ent_tau [0,1,2,3,4,5,6,7,8] ⟨qZ0,qZ1,rfl⟩
def a85(_:TD)(p:Nat)(x:Tr):Int:=loE (x.s p)
def b85(_:TD)(p:Nat)(x:Tr):Int:=hiE (x.s p)
theorem see85(t:TD)(hv:t.Valid)(p:Nat)(hp:p<t.nS)(x:Tr)(hx:fullTr t x)(lo hi:Int)(sm:Bool):
  CallP Tryz.prog 162 [.ptr 8 0,trv x] [some (.roc [.osl t.bM 1 3 t.nM t.cM,.osl t.bS 2 2 t.nS t.cS,.osl t.bL 3 4 t.nL t.cL,.map 4]),
 some (.roa 3 t.nM (row3 t.mi t.mlo t.mhi)),some (.roa 2 t.nS (row2 t.slo t.shi)),some (.roa 4 t.nL (row4 t.lp t.lm t.llo t.lhi)),some (.memo 5 t.F []),
 some (.glob 1 [.int .i64 0,.int .i64 1,.int .i64 3,.int .i64 6,.int .i64 9,.int .i64 11,.int .i64 12]),
 some (.roc [.int .i64 p]),some db,some (.cells [.int .i64 lo,.int .i64 hi,.bool sm,.fn (.func 103) [] [.ptr 6 0]])]
   (Ret (.tup []) [some (.roc [.osl t.bM 1 3 t.nM t.cM,.osl t.bS 2 2 t.nS t.cS,.osl t.bL 3 4 t.nL t.cL,.map 4]),
 some (.roa 3 t.nM (row3 t.mi t.mlo t.mhi)),some (.roa 2 t.nS (row2 t.slo t.shi)),some (.roa 4 t.nL (row4 t.lp t.lm t.llo t.lhi)),some (.memo 5 t.F []),
 some (.glob 1 [.int .i64 0,.int .i64 1,.int .i64 3,.int .i64 6,.int .i64 9,.int .i64 11,.int .i64 12]),
 some (.roc [.int .i64 p]),some db,some (.cells [.int .i64 (seeLo sm lo (a85 t p x)),.int .i64 (seeHi sm hi (b85 t p x)),.bool true,.fn (.func 103) [] [.ptr 6 0]])]):=by
 refine callR (E:=E) E_ok Tryz.func162 rfl ?_
 refine aN ?_ ?_
 ·exact sA
 refine drawP E_ok [8,9] pl162_1 (by kernel_rfl) ?_
 refine And.intro (And.intro ?_ ?_) trivial
 ·exact sA
 refine(u85 t hv p hp x hx).use [6,7] ?_ (qZ0) rfl
 refine And.intro ?_ (And.intro rfl ?_)
 ·exact sA
 refine And.intro ?_ (And.intro (fun hs=>?_) (fun hs=>?_))
 ·exact sA
 ·have hs':sm=false:=by simpa using hs
  subst hs'
  refine aN ?_ ?_
  ·exact sA
  refine drawP E_ok [] pl162_4s (by kernel_rfl) ?_
  refine And.intro (And.intro (And.intro ?_ trivial) trivial) (And.intro (And.intro (And.intro ?_ trivial) trivial) trivial)
  ·refine aN ?_ ?_
   ·exact sA
   refine aN ?_ ?_
   ·exact rfl
   refine aN ?_ ?_
   ·exact sA
   refine ent_tau [0,1,2,3,4,5,6,7,8] ⟨?_,qZ1,rfl⟩
   (repeat' (first|exact tU|exact rfl|exact fun _ _=>rfl|exact Or.inl rfl|refine aN ?_ ?_))
   refine cells_eq ?_ ?_
   ·simp only[seeLo,a85,reduceCtorEq,if_true,if_false]
    try(repeat' split)
    all_goals omega
   ·simp only[seeHi,b85,reduceCtorEq,if_true,if_false]
    try(repeat' split)
    all_goals omega
  ·refine aN ?_ ?_
   ·exact sA
   refine aN ?_ ?_
   ·exact rfl
   refine aN ?_ ?_
   ·exact sA
   refine ent_tau [0,1,2,3,4,5,6,7,8] ⟨?_,qZ1,rfl⟩
   (repeat' (first|exact tU|exact rfl|exact fun _ _=>rfl|exact Or.inl rfl|refine aN ?_ ?_))
   refine cells_eq ?_ ?_
   ·simp only[seeLo,a85,reduceCtorEq,if_true,if_false]
    try(repeat' split)
    all_goals omega
   ·simp only[seeHi,b85,reduceCtorEq,if_true,if_false]
    try(repeat' split)
    all_goals omega
 ·have hs':sm=true:=by simpa using hs
  subst hs'
  refine aN ?_ ?_
  ·exact sA
  refine drawP E_ok [] pl162_4s (by kernel_rfl) ?_
  refine And.intro (And.intro (And.intro ?_ trivial) trivial) (And.intro (And.intro (And.intro ?_ trivial) trivial) trivial)
  ·refine aN ?_ ?_
   ·exact sA
   refine aN ?_ ?_
   ·exact rfl
   refine aN ?_ ?_
   ·exact sA
   refine ent_tau [0,1,2,3,4,5,6,7,8] ⟨?_,qZ1,rfl⟩
   (repeat' (first|exact tU|exact rfl|exact fun _ _=>rfl|exact Or.inl rfl|refine aN ?_ ?_))
   refine cells_eq ?_ ?_
   ·simp only[seeLo,a85,reduceCtorEq,if_true,if_false]
    try(repeat' split)
    all_goals omega
   ·simp only[seeHi,b85,reduceCtorEq,if_true,if_false]
    try(repeat' split)
    all_goals omega
  ·refine aN ?_ ?_
   ·exact sA
   refine aN ?_ ?_
   ·exact rfl
   refine aN ?_ ?_
   ·exact sA
   refine ent_tau [0,1,2,3,4,5,6,7,8] ⟨?_,qZ1,rfl⟩
   (repeat' (first|exact tU|exact rfl|exact fun _ _=>rfl|exact Or.inl rfl|refine aN ?_ ?_))
   refine cells_eq ?_ ?_
   ·simp only[seeLo,a85,reduceCtorEq,if_true,if_false]
    try(repeat' split)
    all_goals omega
   ·simp only[seeHi,b85,reduceCtorEq,if_true,if_false]
    try(repeat' split)
    all_goals omega
theorem span85(t:TD)(hv:t.Valid)(p:Nat)(hp:p<t.nS)(g:List Tr)(hg: ∀x∈g,fullTr t x)(hl:g.length≤1000)(cp:Nat):
  CallP Tryz.prog 101 [.slice 8 8 0 g.length cp,.fn (.func 103) [] [.ptr 6 0]] [some (.roc [.osl t.bM 1 3 t.nM t.cM,.osl t.bS 2 2 t.nS t.cS,.osl t.bL 3 4 t.nL t.cL,.map 4]),
 some (.roa 3 t.nM (row3 t.mi t.mlo t.mhi)),some (.roa 2 t.nS (row2 t.slo t.shi)),some (.roa 4 t.nL (row4 t.lp t.lm t.llo t.lhi)),some (.memo 5 t.F []),
 some (.glob 1 [.int .i64 0,.int .i64 1,.int .i64 3,.int .i64 6,.int .i64 9,.int .i64 11,.int .i64 12]),
 some (.roc [.int .i64 p]),some db,some (.roa 8 g.length (rows g))]
   (Ret (.agg [.int .i64 (hulLo (a85 t p) g g.length),.int .i64 (hulHi (b85 t p) g g.length)]) [some (.roc [.osl t.bM 1 3 t.nM t.cM,.osl t.bS 2 2 t.nS t.cS,.osl t.bL 3 4 t.nL t.cL,.map 4]),
 some (.roa 3 t.nM (row3 t.mi t.mlo t.mhi)),some (.roa 2 t.nS (row2 t.slo t.shi)),some (.roa 4 t.nL (row4 t.lp t.lm t.llo t.lhi)),some (.memo 5 t.F []),
 some (.glob 1 [.int .i64 0,.int .i64 1,.int .i64 3,.int .i64 6,.int .i64 9,.int .i64 11,.int .i64 12]),
 some (.roc [.int .i64 p]),some db,some (.roa 8 g.length (rows g))]):=by
 refine callR (E:=E) E_ok Tryz.func101 rfl ?_
 refine aN ?_ ?_
 ·exact sA
 refine loopP E_ok [0,1,4,5,10,11] (fun k:Nat=>[(12,.int .i64 k)]) (fun k H=>H.set 10 (some (.cells [.int .i64 (hulLo (a85 t p) g k),.int .i64 (hulHi (b85 t p) g k),.bool (nz k),.fn (.func 103) [] [.ptr 6 0]])))
  (fun k=>k≤g.length) (fun k=>g.length-k) 0 (Nat.zero_le _) ?_ ?_
 ·exact ent_tau [0,1,2,3,4,5,6,7,8,9,10] ⟨qZ0,qZ1,rfl⟩
 ·intro k hk
  refine And.intro ?_ (And.intro (fun hlt=>?_) (fun hlt=>?_))
  ·exact sA
  ·have hlt':k<g.length:=by simpa using hlt
   have ek:(0+(k:Int).toNat)=k:=by omega
   have hgk:=hg _ (getD_mem hlt')
   refine aN ?_ ?_
   ·simp[AllP,under,gB,wB,inR_iff,IntKind.bits]
    omega
   rw[ek]
   refine(see85 t hv p hp (g.getD k tr0) hgk _ _ _).use [0,1,2,3,4,5,6,7,10] ?_ (qZ0) rfl
   refine And.intro ?_ ⟨k+1,hlt',by omega,?_⟩
   ·simp[AllP,under,gB,wB,inR_iff,IntKind.bits]
    omega
   ·exact ent_tau [0,1,2,3,4,5,6,7,8,9,10] ⟨qZ0,qZ1,rfl⟩
  ·have hkl:k=g.length:=by
    have: ¬(k<g.length):=by simpa using hlt
    omega
   subst hkl
   refine aN ?_ ?_
   ·exact sA
   refine And.intro trivial ?_
   exact ent_tau [0,1,2,3,4,5,6,7,8] ⟨qZ0,qZ1,rfl⟩
def a98(t:TD)(m:Int)(p:Nat)(x:Tr):Int:=max0 (t.stand x.h m-hiE (x.s p))
def b98(t:TD)(m:Int)(p:Nat)(x:Tr):Int:=max0 (t.stand x.h m-loE (x.s p))
theorem see98(t:TD)(hv:t.Valid)(m:Int)(p:Nat)(hm:t.isMin m)(hp:p<t.nS)(x:Tr)(hx:fullTr t x)(lo hi:Int)(sm:Bool):
  CallP Tryz.prog 162 [.ptr 10 0,trv x] [some (.roc [.osl t.bM 1 3 t.nM t.cM,.osl t.bS 2 2 t.nS t.cS,.osl t.bL 3 4 t.nL t.cL,.map 4]),
 some (.roa 3 t.nM (row3 t.mi t.mlo t.mhi)),some (.roa 2 t.nS (row2 t.slo t.shi)),some (.roa 4 t.nL (row4 t.lp t.lm t.llo t.lhi)),some (.memo 5 t.F []),
 some (.glob 1 [.int .i64 0,.int .i64 1,.int .i64 3,.int .i64 6,.int .i64 9,.int .i64 11,.int .i64 12]),
 some (.roc [.ptr 0 0]),some (.roc [.int .i64 m]),some (.roc [.int .i64 p]),some db,some (.cells [.int .i64 lo,.int .i64 hi,.bool sm,.fn (.func 169) [] [.ptr 6 0,.ptr 7 0,.ptr 8 0]])]
   (Ret (.tup []) [some (.roc [.osl t.bM 1 3 t.nM t.cM,.osl t.bS 2 2 t.nS t.cS,.osl t.bL 3 4 t.nL t.cL,.map 4]),
 some (.roa 3 t.nM (row3 t.mi t.mlo t.mhi)),some (.roa 2 t.nS (row2 t.slo t.shi)),some (.roa 4 t.nL (row4 t.lp t.lm t.llo t.lhi)),some (.memo 5 t.F []),
 some (.glob 1 [.int .i64 0,.int .i64 1,.int .i64 3,.int .i64 6,.int .i64 9,.int .i64 11,.int .i64 12]),
 some (.roc [.ptr 0 0]),some (.roc [.int .i64 m]),some (.roc [.int .i64 p]),some db,some (.cells [.int .i64 (seeLo sm lo (a98 t m p x)),.int .i64 (seeHi sm hi (b98 t m p x)),.bool true,.fn (.func 169) [] [.ptr 6 0,.ptr 7 0,.ptr 8 0]])]):=by
 refine callR (E:=E) E_ok Tryz.func162 rfl ?_
 refine aN ?_ ?_
 ·exact sA
 refine drawP E_ok [10,11] pl162_1 (by kernel_rfl) ?_
 refine And.intro (And.intro ?_ ?_) trivial
 ·exact sA
 refine(u98 t hv m p hm hp x hx).use [0,1,2,3,4,5,6,7,8,9] ?_ (qZ0) rfl
 refine And.intro ?_ (And.intro rfl ?_)
 ·exact sA
 refine And.intro ?_ (And.intro (fun hs=>?_) (fun hs=>?_))
 ·exact sA
 ·have hs':sm=false:=by simpa using hs
  subst hs'
  refine aN ?_ ?_
  ·exact sA
  refine drawP E_ok [] pl162_4s (by kernel_rfl) ?_
  refine And.intro (And.intro (And.intro ?_ trivial) trivial) (And.intro (And.intro (And.intro ?_ trivial) trivial) trivial)
  ·refine aN ?_ ?_
   ·exact sA
   refine aN ?_ ?_
   ·exact rfl
   refine aN ?_ ?_
   ·exact sA
   refine ent_tau [0,1,2,3,4,5,6,7,8,9,10] ⟨?_,qZ1,rfl⟩
   (repeat' (first|exact tU|exact rfl|exact fun _ _=>rfl|exact Or.inl rfl|refine aN ?_ ?_))
   refine cells_eq ?_ ?_
   ·simp only[seeLo,a98,reduceCtorEq,if_true,if_false]
    try(repeat' split)
    all_goals omega
   ·simp only[seeHi,b98,reduceCtorEq,if_true,if_false]
    try(repeat' split)
    all_goals omega
  ·refine aN ?_ ?_
   ·exact sA
   refine aN ?_ ?_
   ·exact rfl
   refine aN ?_ ?_
   ·exact sA
   refine ent_tau [0,1,2,3,4,5,6,7,8,9,10] ⟨?_,qZ1,rfl⟩
   (repeat' (first|exact tU|exact rfl|exact fun _ _=>rfl|exact Or.inl rfl|refine aN ?_ ?_))
   refine cells_eq ?_ ?_
   ·simp only[seeLo,a98,reduceCtorEq,if_true,if_false]
    try(repeat' split)
    all_goals omega
   ·simp only[seeHi,b98,reduceCtorEq,if_true,if_false]
    try(repeat' split)
    all_goals omega
 ·have hs':sm=true:=by simpa using hs
  subst hs'
  refine aN ?_ ?_
  ·exact sA
  refine drawP E_ok [] pl162_4s (by kernel_rfl) ?_
  refine And.intro (And.intro (And.intro ?_ trivial) trivial) (And.intro (And.intro (And.intro ?_ trivial) trivial) trivial)
  ·refine aN ?_ ?_
   ·exact sA
   refine aN ?_ ?_
   ·exact rfl
   refine aN ?_ ?_
   ·exact sA
   refine ent_tau [0,1,2,3,4,5,6,7,8,9,10] ⟨?_,qZ1,rfl⟩
   (repeat' (first|exact tU|exact rfl|exact fun _ _=>rfl|exact Or.inl rfl|refine aN ?_ ?_))
   refine cells_eq ?_ ?_
   ·simp only[seeLo,a98,reduceCtorEq,if_true,if_false]
    try(repeat' split)
    all_goals omega
   ·simp only[seeHi,b98,reduceCtorEq,if_true,if_false]
    try(repeat' split)
    all_goals omega
  ·refine aN ?_ ?_
   ·exact sA
   refine aN ?_ ?_
   ·exact rfl
   refine aN ?_ ?_
   ·exact sA
   refine ent_tau [0,1,2,3,4,5,6,7,8,9,10] ⟨?_,qZ1,rfl⟩
   (repeat' (first|exact tU|exact rfl|exact fun _ _=>rfl|exact Or.inl rfl|refine aN ?_ ?_))
   refine cells_eq ?_ ?_
   ·simp only[seeLo,a98,reduceCtorEq,if_true,if_false]
    try(repeat' split)
    all_goals omega
   ·simp only[seeHi,b98,reduceCtorEq,if_true,if_false]
    try(repeat' split)
    all_goals omega
theorem span98(t:TD)(hv:t.Valid)(m:Int)(p:Nat)(hm:t.isMin m)(hp:p<t.nS)(g:List Tr)(hg: ∀x∈g,fullTr t x)(hl:g.length≤1000)(cp:Nat):
  CallP Tryz.prog 101 [.slice 10 8 0 g.length cp,.fn (.func 169) [] [.ptr 6 0,.ptr 7 0,.ptr 8 0]] [some (.roc [.osl t.bM 1 3 t.nM t.cM,.osl t.bS 2 2 t.nS t.cS,.osl t.bL 3 4 t.nL t.cL,.map 4]),
 some (.roa 3 t.nM (row3 t.mi t.mlo t.mhi)),some (.roa 2 t.nS (row2 t.slo t.shi)),some (.roa 4 t.nL (row4 t.lp t.lm t.llo t.lhi)),some (.memo 5 t.F []),
 some (.glob 1 [.int .i64 0,.int .i64 1,.int .i64 3,.int .i64 6,.int .i64 9,.int .i64 11,.int .i64 12]),
 some (.roc [.ptr 0 0]),some (.roc [.int .i64 m]),some (.roc [.int .i64 p]),some db,some (.roa 8 g.length (rows g))]
   (Ret (.agg [.int .i64 (hulLo (a98 t m p) g g.length),.int .i64 (hulHi (b98 t m p) g g.length)]) [some (.roc [.osl t.bM 1 3 t.nM t.cM,.osl t.bS 2 2 t.nS t.cS,.osl t.bL 3 4 t.nL t.cL,.map 4]),
 some (.roa 3 t.nM (row3 t.mi t.mlo t.mhi)),some (.roa 2 t.nS (row2 t.slo t.shi)),some (.roa 4 t.nL (row4 t.lp t.lm t.llo t.lhi)),some (.memo 5 t.F []),
 some (.glob 1 [.int .i64 0,.int .i64 1,.int .i64 3,.int .i64 6,.int .i64 9,.int .i64 11,.int .i64 12]),
 some (.roc [.ptr 0 0]),some (.roc [.int .i64 m]),some (.roc [.int .i64 p]),some db,some (.roa 8 g.length (rows g))]):=by
 refine callR (E:=E) E_ok Tryz.func101 rfl ?_
 refine aN ?_ ?_
 ·exact sA
 refine loopP E_ok [0,1,4,5,10,11] (fun k:Nat=>[(12,.int .i64 k)]) (fun k H=>H.set 12 (some (.cells [.int .i64 (hulLo (a98 t m p) g k),.int .i64 (hulHi (b98 t m p) g k),.bool (nz k),.fn (.func 169) [] [.ptr 6 0,.ptr 7 0,.ptr 8 0]])))
  (fun k=>k≤g.length) (fun k=>g.length-k) 0 (Nat.zero_le _) ?_ ?_
 ·exact ent_tau [0,1,2,3,4,5,6,7,8,9,10,11,12] ⟨qZ0,qZ1,rfl⟩
 ·intro k hk
  refine And.intro ?_ (And.intro (fun hlt=>?_) (fun hlt=>?_))
  ·exact sA
  ·have hlt':k<g.length:=by simpa using hlt
   have ek:(0+(k:Int).toNat)=k:=by omega
   have hgk:=hg _ (getD_mem hlt')
   refine aN ?_ ?_
   ·simp[AllP,under,gB,wB,inR_iff,IntKind.bits]
    omega
   rw[ek]
   refine(see98 t hv m p hm hp (g.getD k tr0) hgk _ _ _).use [0,1,2,3,4,5,6,7,8,9,12] ?_ (qZ0) rfl
   refine And.intro ?_ ⟨k+1,hlt',by omega,?_⟩
   ·simp[AllP,under,gB,wB,inR_iff,IntKind.bits]
    omega
   ·exact ent_tau [0,1,2,3,4,5,6,7,8,9,10,11,12] ⟨qZ0,qZ1,rfl⟩
  ·have hkl:k=g.length:=by
    have: ¬(k<g.length):=by simpa using hlt
    omega
   subst hkl
   refine aN ?_ ?_
   ·exact sA
   refine And.intro trivial ?_
   exact ent_tau [0,1,2,3,4,5,6,7,8,9,10] ⟨qZ0,qZ1,rfl⟩
noncomputable def TD.HG(t:TD):SHeap:=[some (.roa 3 t.nM (row3 t.mi t.mlo t.mhi)),some (.roa 2 t.nS (row2 t.slo t.shi)),some (.roa 4 t.nL (row4 t.lp t.lm t.llo t.lhi)),
 some (.glob 1 [.int .i64 0,.int .i64 1,.int .i64 3,.int .i64 6,.int .i64 9,.int .i64 11,.int .i64 12]),some db]
theorem u71(t:TD)(m:Int)(hv:t.Valid):CallP Tryz.prog 188 [.ptr 0 0,.ptr 5 0] (t.shore++[some (.roc [.int .i64 m])]) (Ret (.bool (inB m (t.mi 0) (t.mi (t.nM-1)))) (t.shore++[some (.roc [.int .i64 m])])):=by
 have hM:=hv.1;refine callR (E:=E) E_ok Tryz.func188 rfl ?_;refine aN ?_ ?_
 ·exact sA
 refine(u57 t (by omega) (by omega) m).use [0,1,2,3,4] ?_ (qZ0) rfl;refine aN ?_ ?_
 ·exact sA
 exact ent_tau [0,1,2,3,4,5] ⟨qZ0,qZ1,rfl⟩
structure ToldT(α:Type) where
 v:α
 e:Int
open Classical in
noncomputable def TD.height(t:TD)(m:Int):ToldT (Int×Int):=
 if¬t.Valid then⟨(0,0),1⟩else if¬t.isMin m then⟨(0,0),2⟩else if t.all=[]then⟨(0,0),10⟩else⟨(hulLo (fun x=>t.stand x.h m) t.all t.all.length,hulHi (fun x=>t.stand x.h m) t.all t.all.length),0⟩
theorem u22(t:TD)(m:Int):CallP Tryz.prog 135 [t.A,.int .i64 m] t.HG (Ret (.tup [.agg [.int .i64 (t.height m).v.1,.int .i64 (t.height m).v.2],.int .i64 (t.height m).e]) t.HG):=by
 refine callD (E:=E) E_ok Tryz.func135 rfl Tryz.func187 ⟨_,_,_,_,_,_,_,_,rfl,rfl,rfl⟩ rfl rfl ?_;refine aN ?_ ?_
 ·exact sA
 refine CallP.frame (u44_1 t m 188 (.inl rfl) _ (u71 t m)) [0,1,2,6] (qZ0) (apartB_ok rfl) rfl ?_;rintro ce h' (⟨hv,hb,rfl,rfl⟩|⟨hv,rfl,rfl⟩|⟨hv,hb,rfl,rfl⟩)
 ·refine⟨ownB_ok rfl,?_⟩;have hm:t.isMin m:=inB_iff.1 hb;refine aN ?_ ?_
  ·exact sA
  refine CallP.frame (u48 t hv) [9,0,1,2,10,3] (qZ0) (apartB_ok rfl) rfl ?_;rintro ce h' (⟨h0,rfl,rfl⟩|⟨h0,cap,hc1,hc2,rfl,rfl⟩)
  ·refine⟨ownB_ok rfl,?_⟩;have e0:t.height m=⟨(0,0),10⟩:=by simp[TD.height,hv,hm,h0]
   refine aN ?_ ?_
   ·exact sA
   refine(u43_stop 0 10).use [8] ?_ (qZ0) rfl;refine And.intro ?_ ⟨_,_,⟨rfl,rfl⟩,?_⟩
   ·exact sA
   rw[e0];exact ent_tau [0,1,2,3,4] ⟨qZ0,qZ1,rfl⟩
  ·refine⟨ownB_ok rfl,?_⟩;have hne: ¬t.all=[]:=fun h=>by rw[h]at h0;simp at h0
   have e0:t.height m=⟨(hulLo (fun x=>t.stand x.h m) t.all t.all.length,hulHi (fun x=>t.stand x.h m) t.all t.all.length),0⟩:=by simp[TD.height,hv,hm,hne]
   have hlen:=all_len hv;have hgood:=all_full hv;refine aN ?_ ?_
   ·exact sA
   refine(span73 t hv m hm t.all hgood (by omega) cap).use [9,0,1,2,10,3,11,6,12] ?_ (qZ0) rfl;refine aN ?_ ?_
   ·exact sA
   refine(u43_nil 0).use [8] ?_ (qZ0) rfl;refine And.intro ?_ ⟨_,_,⟨rfl,rfl⟩,?_⟩
   ·exact sA
   rw[e0];exact ent_tau [0,1,2,3,4] ⟨qZ0,qZ1,rfl⟩
 ·refine⟨ownB_ok rfl,?_⟩;have e0:t.height m=⟨(0,0),1⟩:=by simp[TD.height,hv]
  refine aN ?_ ?_
  ·exact sA
  refine(u43_stop 0 1).use [8] ?_ (qZ0) rfl;refine And.intro ?_ ⟨_,_,⟨rfl,rfl⟩,?_⟩
  ·exact sA
  rw[e0];exact ent_tau [0,1,2,3,4] ⟨qZ0,qZ1,rfl⟩
 ·refine⟨ownB_ok rfl,?_⟩;have hm: ¬t.isMin m:=fun h=>by rw[inB_iff.2 h]at hb;cases hb
  have e0:t.height m=⟨(0,0),2⟩:=by simp[TD.height,hv,hm]
  refine aN ?_ ?_
  ·exact sA
  refine(u43_stop 0 2).use [8] ?_ (qZ0) rfl;refine And.intro ?_ ⟨_,_,⟨rfl,rfl⟩,?_⟩
  ·exact sA
  rw[e0];exact ent_tau [0,1,2,3,4] ⟨qZ0,qZ1,rfl⟩
def TD.isPl(t:TD)(p:Int):Prop:=0≤p∧p≤t.nS-1
theorem u84(t:TD)(p:Int)(hv:t.Valid):CallP Tryz.prog 99 [.ptr 0 0,.ptr 5 0] (t.shore++[some (.roc [.int .i64 p])]) (Ret (.bool (inB p 0 (t.nS-1))) (t.shore++[some (.roc [.int .i64 p])])):=by
 have hS:=hv.2.1;refine callR (E:=E) E_ok Tryz.func99 rfl ?_;refine aN ?_ ?_
 ·exact sA
 refine(u46 t (by omega) p).use [0,1,2,3,4] ?_ (qZ0) rfl;refine aN ?_ ?_
 ·exact sA
 exact ent_tau [0,1,2,3,4,5] ⟨qZ0,qZ1,rfl⟩
open Classical in
noncomputable def TD.sandT(t:TD)(p:Int):ToldT (Int×Int):=
 if¬t.Valid then⟨(0,0),1⟩else if¬t.isPl p then⟨(0,0),2⟩else if t.all=[]then⟨(0,0),10⟩else⟨(hulLo (fun x=>loE (x.s p.toNat)) t.all t.all.length,hulHi (fun x=>hiE (x.s p.toNat)) t.all t.all.length),0⟩
theorem u31(t:TD)(p:Int):CallP Tryz.prog 46 [t.A,.int .i64 p] t.HG (Ret (.tup [.agg [.int .i64 (t.sandT p).v.1,.int .i64 (t.sandT p).v.2],.int .i64 (t.sandT p).e]) t.HG):=by
 refine callD (E:=E) E_ok Tryz.func46 rfl Tryz.func96 ⟨_,_,_,_,_,_,_,_,rfl,rfl,rfl⟩ rfl rfl ?_;refine aN ?_ ?_
 ·exact sA
 refine CallP.frame (u44_1 t p 99 (.inr (.inl rfl)) _ (u84 t p)) [0,1,2,6] (qZ0) (apartB_ok rfl) rfl ?_;rintro ce h' (⟨hv,hb,rfl,rfl⟩|⟨hv,rfl,rfl⟩|⟨hv,hb,rfl,rfl⟩)
 ·refine⟨ownB_ok rfl,?_⟩;have hm:t.isPl p:=inB_iff.1 hb;refine aN ?_ ?_
  ·exact sA
  refine CallP.frame (u48 t hv) [9,0,1,2,10,3] (qZ0) (apartB_ok rfl) rfl ?_;rintro ce h' (⟨h0,rfl,rfl⟩|⟨h0,cap,hc1,hc2,rfl,rfl⟩)
  ·refine⟨ownB_ok rfl,?_⟩;have e0:t.sandT p=⟨(0,0),10⟩:=by simp[TD.sandT,hv,hm,h0]
   refine aN ?_ ?_
   ·exact sA
   refine(u43_stop 0 10).use [8] ?_ (qZ0) rfl;refine And.intro ?_ ⟨_,_,⟨rfl,rfl⟩,?_⟩
   ·exact sA
   rw[e0];exact ent_tau [0,1,2,3,4] ⟨qZ0,qZ1,rfl⟩
  ·refine⟨ownB_ok rfl,?_⟩;have hne: ¬t.all=[]:=fun h=>by rw[h]at h0;simp at h0
   have e0:t.sandT p=⟨(hulLo (fun x=>loE (x.s p.toNat)) t.all t.all.length,hulHi (fun x=>hiE (x.s p.toNat)) t.all t.all.length),0⟩:=by simp[TD.sandT,hv,hm,hne]
   have hlen:=all_len hv;obtain⟨q,hq⟩:=Int.eq_ofNat_of_zero_le hm.1;subst hq;have hq2:=hm.2;rw[Int.toNat_natCast]at e0;refine aN ?_ ?_
   ·exact sA
   refine(span85 t hv q (by omega) t.all (all_full hv) (by omega) cap).use [9,0,1,2,10,3,6,4,11] ?_ (qZ0) rfl;refine aN ?_ ?_
   ·exact sA
   refine(u43_nil 0).use [8] ?_ (qZ0) rfl;refine And.intro ?_ ⟨_,_,⟨rfl,rfl⟩,?_⟩
   ·exact sA
   rw[e0];exact ent_tau [0,1,2,3,4] ⟨qZ0,qZ1,rfl⟩
 ·refine⟨ownB_ok rfl,?_⟩;have e0:t.sandT p=⟨(0,0),1⟩:=by simp[TD.sandT,hv]
  refine aN ?_ ?_
  ·exact sA
  refine(u43_stop 0 1).use [8] ?_ (qZ0) rfl;refine And.intro ?_ ⟨_,_,⟨rfl,rfl⟩,?_⟩
  ·exact sA
  rw[e0];exact ent_tau [0,1,2,3,4] ⟨qZ0,qZ1,rfl⟩
 ·refine⟨ownB_ok rfl,?_⟩;have hm: ¬t.isPl p:=fun h=>by rw[inB_iff.2 h]at hb;cases hb
  have e0:t.sandT p=⟨(0,0),2⟩:=by simp[TD.sandT,hv,hm]
  refine aN ?_ ?_
  ·exact sA
  refine(u43_stop 0 2).use [8] ?_ (qZ0) rfl;refine And.intro ?_ ⟨_,_,⟨rfl,rfl⟩,?_⟩
  ·exact sA
  rw[e0];exact ent_tau [0,1,2,3,4] ⟨qZ0,qZ1,rfl⟩
noncomputable def B50(t:TD)(g:List Tr):SHeap:=[some (.roc [.osl t.bM 1 3 t.nM t.cM,.osl t.bS 2 2 t.nS t.cS,.osl t.bL 3 4 t.nL t.cL,.map 4]),
 some (.roa 3 t.nM (row3 t.mi t.mlo t.mhi)),some (.roa 2 t.nS (row2 t.slo t.shi)),some (.roa 4 t.nL (row4 t.lp t.lm t.llo t.lhi)),some (.memo 5 t.F []),
 some (.glob 1 [.int .i64 0,.int .i64 1,.int .i64 3,.int .i64 6,.int .i64 9,.int .i64 11,.int .i64 12]),some (.roa 8 g.length (rows g)),some db]
theorem u50(t:TD)(hv:t.Valid)(g:List Tr)(hg: ∀x∈g,fullTr t x)(hl:g.length≤1000)(cp:Nat)(p:Nat)(m:Int)(hm:t.isMin m)(hp:p<t.nS):
  CallP Tryz.prog 108 [.ptr 0 0,.slice 6 8 0 g.length cp,.int .i64 p,.int .i64 m] (B50 t g)
   (Ret (.agg [.int .i64 (hulLo (a98 t m p) g g.length),.int .i64 (hulHi (b98 t m p) g g.length)]) (B50 t g)):=by
 refine callR (E:=E) E_ok Tryz.func108 rfl ?_;refine aN ?_ ?_
 ·exact sA
 refine(span98 t hv m p hm hp g hg hl cp).use [0,1,2,3,4,5,8,10,9,7,6] ?_ (qZ0) rfl;refine aN ?_ ?_
 ·exact sA
 exact ent_tau [0,1,2,3,4,5,6,7] ⟨qZ0,qZ1,rfl⟩
def firstF(ok:Int→Bool):Nat→Int→ToldT Int
 |0,_=>⟨0,4⟩
 |c+1,m=>if ok m=true then⟨m,0⟩else firstF ok c (m+1)
def okF(t:TD)(p:Nat)(l:Int)(s:Bool)(m:Int):Bool:=if s=true then decide (l≤hulLo (a98 t m p) t.all t.all.length)else decide (l≤hulHi (b98 t m p) t.all t.all.length)
open Classical in
noncomputable def TD.firstT(t:TD)(p l m:Int)(s:Bool):ToldT Int:=
 if¬t.Valid then⟨0,1⟩else if¬(t.isPl p∧(0≤l∧l≤60)∧t.isMin m)then⟨0,2⟩else if t.all=[]then⟨0,10⟩else firstF (okF t p.toNat l s) (t.mi (t.nM-1)-m+1).toNat m
end Go.Proofs.YthnhlkflkidemaaGreatDoor
