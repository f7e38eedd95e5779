/-
  Parts: HoH1, HoH2, HoH3, HoH4, HoH5, HoH6.
-/
set_option linter.unusedVariables false
set_option linter.unusedSimpArgs false
/-
 The plain law of matching: as the program seeks it, by alternating ways; where it ends, how few chains there are is how many elements no two of which hang together there are.
-/
namespace Kuhn
structure St where
 seen:Nat→Bool
 fol:Nat→Option Nat
def St.mark(s:St)(k:Nat):St:={s with seen:=fun r=>decide (r=k)||s.seen r}
def St.put(s:St)(k i:Nat):St:={s with fol:=fun r=>if r=k then some i else s.fol r}
def scan(m:Nat→St→Bool×St)(adj:Nat→Nat→Bool)(i:Nat):Nat→Nat→St→Bool×St
 |0,_,s=>(false,s)
 |c+1,k,s=>
  if(!adj i k||s.seen k)=true then scan m adj i c (k+1) s
  else match s.fol k with
   |none=>(true,(s.mark k).put k i)
   |some j=>match m j (s.mark k)with
    |(true,s2)=>(true,s2.put k i)
    |(false,s2)=>scan m adj i c (k+1) s2
def go(adj:Nat→Nat→Bool)(n:Nat):Nat→Nat→St→Bool×St
 |0=>fun _ s=>(false,s)
 |f+1=>fun i s=>scan (go adj n f) adj i n 0 s
def cnt(p:Nat→Bool):Nat→Nat
 |0=>0
 |n+1=>cnt p n+if p n=true then 1 else 0
theorem cnt_le{p q:Nat→Bool} : ∀{n:Nat},(∀r,r<n→p r=true→q r=true)→cnt p n≤cnt q n
 |0,_=>Nat.le_refl _
 |n+1,h=>by
  have ih := cnt_le (p := p) (q := q) (n := n) fun r hr => h r (by omega)
  simp only[cnt];by_cases hp:p n=true
  ·rw[if_pos hp,if_pos (h n (by omega) hp)];omega
  ·rw[if_neg hp];omega
theorem cnt_lt{p q:Nat→Bool}{k:Nat} : ∀{n:Nat},(∀r,r<n→p r=true→q r=true)→k<n→p k=false→q k=true→cnt p n<cnt q n
 |0,_,h,_,_=>absurd h (Nat.not_lt_zero k)
 |n+1,h,hk,hp,hq=>by
  simp only[cnt];rcases Nat.lt_succ_iff_lt_or_eq.1 hk with h1|rfl
  ·have ih:=cnt_lt (p:=p) (q:=q) (n:=n) (fun r hr=>h r (by omega)) h1 hp hq;by_cases hn:p n=true
   ·rw[if_pos hn,if_pos (h n (by omega) hn)];omega
   ·rw[if_neg hn];omega
  ·have ih := cnt_le (p := p) (q := q) (n := k) fun r hr => h r (by omega)
   rw[if_neg (by rw[hp];decide),if_pos hq];omega
def unseen(s:St)(n:Nat):Nat:=cnt (fun r=>!s.seen r) n
theorem unseen_mark{s:St}{n k:Nat}(hk:k<n)(h:s.seen k=false):unseen (s.mark k) n<unseen s n:=by
 refine cnt_lt (k:=k) (fun r hr hp=>?_) hk ?_ ?_
 ·simp only[St.mark,Bool.not_or,Bool.and_eq_true]at hp;exact hp.2
 ·simp[St.mark]
 ·simp[h]
structure Mt(s:St)(i:Nat):Prop where
 no: ∀r,s.seen r=false→s.fol r≠some i
 inj: ∀r r' a,s.seen r=false→s.seen r'=false→s.fol r=some a→s.fol r'=some a→r=r'
structure Yes(adj:Nat→Nat→Bool)(s s':St)(i:Nat):Prop where
 same: ∀r,s.seen r=true→s'.fol r=s.fol r
 inj: ∀r r' a,s.seen r=false→s.seen r'=false→s'.fol r=some a→s'.fol r'=some a→r=r'
 left: ∀a,(∃r,s.seen r=false∧s'.fol r=some a)↔(a=i∨ ∃r,s.seen r=false∧s.fol r=some a)
 one: ∃r0,s.fol r0=none∧s'.fol r0≠none∧ ∀r,r≠r0→(s'.fol r=none↔s.fol r=none)
 edge: ∀r a,s'.fol r=some a→s.fol r=some a∨adj a r=true
structure No(adj:Nat→Nat→Bool)(n:Nat)(s s':St):Prop where
 same:s'.fol=s.fol
 more: ∀r,s.seen r=true→s'.seen r=true
 closed: ∀r,s'.seen r=true→s.seen r=false→ ∃a,s.fol r=some a∧ ∀q,q<n→adj a q=true→s'.seen q=true
def Told(adj:Nat→Nat→Bool)(n:Nat)(s:St)(i:Nat)(r:Bool×St):Prop:=
 (r.1=true→Yes adj s r.2 i)∧(r.1=false→No adj n s r.2∧ ∀q,q<n→adj i q=true→r.2.seen q=true)
theorem Mt.mark{s:St}{i:Nat}(h:Mt s i)(k:Nat):Mt (s.mark k) i:=
 ⟨fun r hr=>h.no r (by simp only[St.mark,Bool.or_eq_false_iff]at hr;exact hr.2),fun r r' a h1 h2=>h.inj r r' a (by simp only[St.mark,Bool.or_eq_false_iff]at h1;exact h1.2) (by simp only[St.mark,Bool.or_eq_false_iff]at h2;exact h2.2)⟩
theorem scan_ok{adj:Nat→Nat→Bool}{n f i:Nat}{m:Nat→St→Bool×St}(hm: ∀j s,Mt s j→unseen s n<f→Told adj n s j (m j s)):
  ∀(c k:Nat) (s:St),k+c=n→Mt s i→unseen s n≤f→((scan m adj i c k s).1=true→Yes adj s (scan m adj i c k s).2 i)∧
   ((scan m adj i c k s).1=false→No adj n s (scan m adj i c k s).2∧ ∀q,k≤q→q<n→adj i q=true→(scan m adj i c k s).2.seen q=true)
 |0,k,s,hk,_,_=>⟨fun h=>by simp[scan]at h,fun _=>⟨⟨rfl,fun _ h=>h,fun r h1 h2=>by simp only[scan]at h1;rw[h1]at h2;cases h2⟩,fun q h1 h2=>by omega⟩⟩
 |c+1,k,s,hk,hM,hU=>by
  unfold scan;by_cases h0:(!adj i k||s.seen k)=true
  ·rw[if_pos h0];obtain⟨y,x⟩:=scan_ok hm c (k+1) s (by omega) hM hU;refine⟨y,fun h=>?_⟩;obtain⟨x1,x2⟩:=x h;refine⟨x1,fun q h1 h2 h3=>?_⟩;rcases Nat.eq_or_lt_of_le h1 with rfl|h4
   ·rw[h3]at h0;exact x1.more k (by simpa using h0)
   ·exact x2 q h4 h2 h3
  ·rw[if_neg h0];have ha:adj i k=true:=by
    cases h:adj i k
    ·rw[h]at h0;simp at h0
    ·rfl
   have hs:s.seen k=false:=by
    cases h:s.seen k
    ·rfl
    ·rw[h]at h0;simp at h0
   have hmk:=unseen_mark (s:=s) (n:=n) (k:=k) (by omega) hs;have seenk: ∀r,(s.mark k).seen r=(decide (r=k)||s.seen r):=fun _=>rfl
   cases hf:s.fol k with
   |none=>
    refine⟨fun _=>?_,fun h=>by cases h⟩;have e: ∀r,((s.mark k).put k i).fol r=if r=k then some i else s.fol r:=fun _=>rfl
    refine⟨fun r hr=>?_,fun r r' a h1 h2 h3 h4=>?_,fun a=>?_,⟨k,hf,?_,fun r hr=>?_⟩,fun r a h=>?_⟩
    ·rw[e,if_neg];rintro rfl;rw[hs]at hr;cases hr
    ·rw[e]at h3 h4;by_cases c1:r=k<;>by_cases c2:r'=k
     ·rw[c1,c2]
     ·rw[if_pos c1]at h3;rw[if_neg c2]at h4;cases h3;exact absurd h4 (hM.no r' h2)
     ·rw[if_neg c1]at h3;rw[if_pos c2]at h4;cases h4;exact absurd h3 (hM.no r h1)
     ·rw[if_neg c1]at h3;rw[if_neg c2]at h4;exact hM.inj r r' a h1 h2 h3 h4
    ·constructor
     ·rintro⟨r,h1,h2⟩;rw[e]at h2;by_cases c1:r=k
      ·rw[if_pos c1]at h2;cases h2;exact .inl rfl
      ·rw[if_neg c1]at h2;exact .inr ⟨r,h1,h2⟩
     ·rintro(rfl|⟨r,h1,h2⟩)
      ·exact⟨k,hs,by rw[e,if_pos rfl]⟩
      ·refine⟨r,h1,?_⟩;rw[e,if_neg]
       ·exact h2
       ·rintro rfl;rw[hf]at h2;cases h2
    ·rw[e,if_pos rfl];exact fun h=>by cases h
    ·rw[e,if_neg hr]
    ·rw[e]at h;by_cases c1:r=k
     ·rw[if_pos c1]at h;cases h;rw[c1];exact .inr ha
     ·rw[if_neg c1]at h;exact .inl h
   |some j=>
    have hMj:Mt (s.mark k) j:=by
     refine⟨fun r hr h=>?_,(hM.mark k).inj⟩;rw[seenk,Bool.or_eq_false_iff,decide_eq_false_iff_not]at hr;exact hr.1 (hM.inj r k j hr.2 hs h hf)
    have T:=hm j (s.mark k) hMj (by omega);cases hr:m j (s.mark k)with
    |mk b s2=>
     rw[hr]at T;simp only[hr];cases b with
     |true=>
      have Y:=T.1 rfl;simp only at Y;refine⟨fun _=>?_,fun h=>by cases h⟩;have e: ∀r,(s2.put k i).fol r=if r=k then some i else s2.fol r:=fun _=>rfl
      have es2:s2.fol k=some j:=by rw[Y.same k (by rw[seenk];simp)];exact hf
      have old: ∀r a,s.seen r=false→r≠k→s2.fol r=some a→a=j∨ ∃r',s.seen r'=false∧r'≠k∧s.fol r'=some a:=fun r a h1 h2 h3=>by
       rcases(Y.left a).1 ⟨r,by rw[seenk];simp[h1,h2],h3⟩with h4|⟨r',h4,h5⟩
       ·exact .inl h4
       ·rw[seenk,Bool.or_eq_false_iff,decide_eq_false_iff_not]at h4;exact .inr ⟨r',h4.2,h4.1,h5⟩
      have noi: ∀r,s.seen r=false→r≠k→s2.fol r≠some i:=fun r h1 h2 h3=>by
       rcases old r i h1 h2 h3 with h4|⟨r',h4,_,h5⟩
       ·rw[←h4]at hf;exact hM.no k hs hf
       ·exact hM.no r' h4 h5
      obtain⟨r0,z1,z2,z3⟩:=Y.one;have hr0k:r0≠k:=fun h=>by
       rw[h]at z1;have:s.fol k=none:=z1;rw[hf]at this;cases this
      refine⟨fun r hr=>?_,fun r r' a h1 h2 h3 h4=>?_,fun a=>?_,⟨r0,z1,?_,fun r hr=>?_⟩,fun r a h=>?_⟩
      ·have hrk:r≠k:=fun h=>by rw[h,hs]at hr;cases hr
       rw[e,if_neg hrk];exact Y.same r (by rw[seenk];simp[hr])
      ·rw[e]at h3 h4;by_cases c1:r=k<;>by_cases c2:r'=k
       ·rw[c1,c2]
       ·rw[if_pos c1]at h3;rw[if_neg c2]at h4;cases h3;exact absurd h4 (noi r' h2 c2)
       ·rw[if_neg c1]at h3;rw[if_pos c2]at h4;cases h4;exact absurd h3 (noi r h1 c1)
       ·rw[if_neg c1]at h3;rw[if_neg c2]at h4;exact Y.inj r r' a (by rw[seenk];simp[h1,c1]) (by rw[seenk];simp[h2,c2]) h3 h4
      ·constructor
       ·rintro⟨r,h1,h2⟩;rw[e]at h2;by_cases c1:r=k
        ·rw[if_pos c1]at h2;cases h2;exact .inl rfl
        ·rw[if_neg c1]at h2;rcases old r a h1 c1 h2 with h4|⟨r',h4,_,h5⟩
         ·rw[h4];exact .inr ⟨k,hs,hf⟩
         ·exact .inr ⟨r',h4,h5⟩
       ·rintro(rfl|⟨r,h1,h2⟩)
        ·exact⟨k,hs,by rw[e,if_pos rfl]⟩
        ·have: ∃r',(s.mark k).seen r'=false∧s2.fol r'=some a:=by
          refine(Y.left a).2 ?_;by_cases c1:r=k
          ·left;rw[c1,hf]at h2;cases h2;rfl
          ·exact .inr ⟨r,by rw[seenk];simp[h1,c1],h2⟩
         obtain⟨r',h4,h5⟩:=this;rw[seenk,Bool.or_eq_false_iff,decide_eq_false_iff_not]at h4;exact⟨r',h4.2,by rw[e,if_neg h4.1];exact h5⟩
      ·rw[e,if_neg hr0k];exact z2
      ·rw[e];by_cases c1:r=k
       ·rw[if_pos c1,c1,hf];simp
       ·rw[if_neg c1];exact z3 r hr
      ·rw[e]at h;by_cases c1:r=k
       ·rw[if_pos c1]at h;cases h;rw[c1];exact .inr ha
       ·rw[if_neg c1]at h;exact Y.edge r a h
     |false=>
      obtain⟨X,Xj⟩:=T.2 rfl;simp only at X Xj;have hU2:unseen s2 n≤f:=by
       have:unseen s2 n≤unseen (s.mark k) n:=cnt_le fun r hr h=>by
        cases h5:(s.mark k).seen r
        ·rfl
        ·rw[X.more r h5]at h;cases h
       omega
      have sub: ∀r,s.seen r=true→s2.seen r=true:=fun r h=>X.more r (by rw[seenk];simp[h])
      have hM2:Mt s2 i:=by
       have g: ∀r,s2.seen r=false→s.seen r=false:=fun r h=>by
        cases h5:s.seen r
        ·rfl
        ·rw[sub r h5]at h;cases h
       exact⟨fun r h=>by rw[X.same];exact hM.no r (g r h),fun r r' a h1 h2=>by rw[X.same];exact hM.inj r r' a (g r h1) (g r' h2)⟩
      have k2:s2.seen k=true:=X.more k (by rw[seenk];simp);obtain⟨y,x⟩:=scan_ok hm c (k+1) s2 (by omega) hM2 hU2;refine⟨fun h=>?_,fun h=>?_⟩
      ·have Y:=y h;simp only at Y⊢;have fs:s2.fol=s.fol:=X.same;refine⟨fun r hr=>?_,fun r r' a h1 h2 h3 h4=>?_,fun a=>?_,?_,fun r a h=>?_⟩
       ·rw[Y.same r (sub r hr),fs]
       ·by_cases c1:s2.seen r=true<;>by_cases c2:s2.seen r'=true
        ·rw[Y.same r c1,fs]at h3;rw[Y.same r' c2,fs]at h4;exact hM.inj r r' a h1 h2 h3 h4
        ·rw[Y.same r c1,fs]at h3;rcases(Y.left a).1 ⟨r',by simpa using c2,h4⟩with h5|⟨r'',h5,h6⟩
         ·rw[h5]at h3;exact absurd h3 (hM.no r h1)
         ·rw[fs]at h6;have g:s.seen r''=false:=by
           cases h7:s.seen r''
           ·rfl
           ·rw[sub _ h7]at h5;cases h5
          have:=hM.inj r r'' a h1 g h3 h6;rw[←this,c1]at h5;cases h5
        ·rw[Y.same r' c2,fs]at h4;rcases(Y.left a).1 ⟨r,by simpa using c1,h3⟩with h5|⟨r'',h5,h6⟩
         ·rw[h5]at h4;exact absurd h4 (hM.no r' h2)
         ·rw[fs]at h6;have g:s.seen r''=false:=by
           cases h7:s.seen r''
           ·rfl
           ·rw[sub _ h7]at h5;cases h5
          have:=hM.inj r' r'' a h2 g h4 h6;rw[←this,c2]at h5;cases h5
        ·exact Y.inj r r' a (by simpa using c1) (by simpa using c2) h3 h4
       ·constructor
        ·rintro⟨r,h1,h2⟩;by_cases c1:s2.seen r=true
         ·rw[Y.same r c1,fs]at h2;exact .inr ⟨r,h1,h2⟩
         ·rcases(Y.left a).1 ⟨r,by simpa using c1,h2⟩with h5|⟨r'',h5,h6⟩
          ·exact .inl h5
          ·rw[fs]at h6;refine .inr ⟨r'',?_,h6⟩;cases h7:s.seen r''
           ·rfl
           ·rw[sub _ h7]at h5;cases h5
        ·rintro(rfl|⟨r,h1,h2⟩)
         ·obtain⟨r,h3,h4⟩:=(Y.left a).2 (.inl rfl);refine⟨r,?_,h4⟩;cases h7:s.seen r
          ·rfl
          ·rw[sub _ h7]at h3;cases h3
         ·by_cases c1:s2.seen r=true
          ·exact⟨r,h1,by rw[Y.same r c1,fs];exact h2⟩
          ·obtain⟨r',h3,h4⟩:=(Y.left a).2 (.inr ⟨r,by simpa using c1,by rw[fs];exact h2⟩);refine⟨r',?_,h4⟩;cases h7:s.seen r'
           ·rfl
           ·rw[sub _ h7]at h3;cases h3
       ·obtain⟨r0,z1,z2,z3⟩:=Y.one;exact⟨r0,by rw[←fs];exact z1,z2,fun r hr=>by rw[←fs];exact z3 r hr⟩
       ·rcases Y.edge r a h with h5|h5
        ·exact .inl (by rw[←fs];exact h5)
        ·exact .inr h5
      ·obtain⟨Z,Zi⟩:=x h;simp only at Z Zi⊢;refine⟨⟨Z.same.trans X.same,fun r hr=>Z.more r (sub r hr),fun r h1 h2=>?_⟩,fun q h1 h2 h3=>?_⟩
       ·by_cases c1:s2.seen r=true
        ·by_cases c2:r=k
         ·rw[c2];exact⟨j,hf,fun q hq hq2=>Z.more q (Xj q hq hq2)⟩
         ·obtain⟨a,g1,g2⟩:=X.closed r c1 (by rw[seenk];simp[c2,h2]);exact⟨a,g1,fun q hq hq2=>Z.more q (g2 q hq hq2)⟩
        ·obtain⟨a,g1,g2⟩:=Z.closed r h1 (by simpa using c1);rw[X.same]at g1;exact⟨a,g1,g2⟩
       ·rcases Nat.eq_or_lt_of_le h1 with rfl|h4
        ·exact Z.more k k2
        ·exact Zi q h4 h2 h3
theorem go_ok{adj:Nat→Nat→Bool}{n:Nat} : ∀(f i:Nat) (s:St),Mt s i→unseen s n<f→Told adj n s i (go adj n f i s)
 |0,i,s,_,h=>absurd h (Nat.not_lt_zero _)
 |f+1,i,s,hM,hU=>by
  obtain⟨y,x⟩:=scan_ok (adj:=adj) (n:=n) (f:=f) (i:=i) (m:=go adj n f) (fun j s hj hs=>go_ok f j s hj hs) n 0 s (by omega) hM (by omega);exact⟨y,fun h=>⟨(x h).1,fun q hq=>(x h).2 q (Nat.zero_le _) hq⟩⟩
def Clo(adj:Nat→Nat→Bool)(n:Nat)(C:Nat→Bool)(fol:Nat→Option Nat):Prop:=
 ∀r,C r=true→ ∃a,fol r=some a∧ ∀q,q<n→adj a q=true→C q=true
structure Kept(adj:Nat→Nat→Bool)(n:Nat)(C:Nat→Bool)(i:Nat)(s:St)(r:Bool×St):Prop where
 no:(∀q,q<n→adj i q=true→C q=true)→r.1=false
 back:r.1=false→r.2.fol=s.fol
 far:r.1=true→ ∀q,C q=true→r.2.fol q=s.fol q
theorem scan_kept{adj:Nat→Nat→Bool}{n i:Nat}{C:Nat→Bool}{m:Nat→St→Bool×St}(hm: ∀j s,Clo adj n C s.fol→Kept adj n C j s (m j s)):
  ∀(c k:Nat) (s:St),k+c=n→Clo adj n C s.fol→Kept adj n C i s (scan m adj i c k s)
 |0,k,s,_,_=>⟨fun _=>rfl,fun _=>rfl,fun h=>by simp[scan]at h⟩
 |c+1,k,s,hk,hC=>by
  unfold scan;by_cases h0:(!adj i k||s.seen k)=true
  ·rw[if_pos h0];exact scan_kept hm c (k+1) s (by omega) hC
  ·rw[if_neg h0];have ha:adj i k=true:=by
    cases h:adj i k
    ·rw[h]at h0;simp at h0
    ·rfl
   cases hf:s.fol k with
   |none=>
    have hk0:C k=true→False:=fun h=>by
     obtain⟨a,e,_⟩:=hC k h;rw[hf]at e;cases e
    refine⟨fun h=>(hk0 (h k (by omega) ha)).elim,(fun h=>by cases h),fun _ q hq=>?_⟩;show(if q=k then some i else s.fol q)=s.fol q;rw[if_neg];rintro rfl;exact hk0 hq
   |some j=>
    have K:=hm j (s.mark k) hC;cases hr:m j (s.mark k)with
    |mk b s2=>
     rw[hr]at K;simp only[hr];cases b with
     |true=>
      have hk0:C k=true→False:=fun h=>by
       obtain⟨a,e,h2⟩:=hC k h;rw[hf]at e;cases e;have:=K.no h2;simp at this
      refine⟨fun h=>(hk0 (h k (by omega) ha)).elim,(fun h=>by cases h),fun _ q hq=>?_⟩;show(if q=k then some i else s2.fol q)=s.fol q;rw[if_neg]
      ·exact K.far rfl q hq
      ·rintro rfl;exact hk0 hq
     |false=>
      have e:s2.fol=s.fol:=K.back rfl;obtain⟨a,b,d⟩:=scan_kept hm c (k+1) s2 (by omega) (by rw[e];exact hC);exact⟨a,fun h=>(b h).trans e,fun h q hq=>by rw[d h q hq,e]⟩
theorem go_kept{adj:Nat→Nat→Bool}{n:Nat}{C:Nat→Bool} : ∀(f i:Nat) (s:St),Clo adj n C s.fol→Kept adj n C i s (go adj n f i s)
 |0,i,s,_=>⟨fun _=>rfl,fun _=>rfl,fun h=>by simp[go]at h⟩
 |f+1,i,s,hC=>scan_kept (fun j s h=>go_kept f j s h) n 0 s (by omega) hC
/-! ### All of them, one after the other -/
def all(adj:Nat→Nat→Bool)(n:Nat)(some:Nat→Bool):Nat→(Nat→Option Nat)
 |0=>fun _=>none
 |i+1=>if some i=true then(go adj n (n+1) i ⟨fun _=>false,all adj n some i⟩).2.fol else all adj n some i
def dom(fol:Nat→Option Nat)(r:Nat):Bool:=(fol r).isSome
theorem cnt_congr{p q:Nat→Bool}{n:Nat}(h: ∀r,r<n→p r=q r):cnt p n=cnt q n:=
 Nat.le_antisymm (cnt_le fun r hr hp=>by rw[←h r hr];exact hp) (cnt_le fun r hr hp=>by rw[h r hr];exact hp)
theorem cnt_one{p q:Nat→Bool}{k:Nat} : ∀{n:Nat},k<n→p k=false→q k=true→(∀r,r≠k→q r=p r)→cnt q n=cnt p n+1
 |0,h,_,_,_=>absurd h (Nat.not_lt_zero k)
 |n+1,hk,hp,hq,h=>by
  simp only[cnt];rcases Nat.lt_succ_iff_lt_or_eq.1 hk with h1|rfl
  ·rw[cnt_one h1 hp hq h,h n (by omega)];omega
  ·rw [hp, hq, cnt_congr (p := q) (q := p) fun r hr => h r (by omega)];simp
structure Inv(adj:Nat→Nat→Bool)(n:Nat)(ok:Nat→Bool)(i:Nat)(fol:Nat→Option Nat)(F C:Nat→Bool):Prop where
 inj: ∀r r' a,fol r=some a→fol r'=some a→r=r'
 edge: ∀r a,fol r=some a→adj a r=true
 left: ∀a,(∃r,fol r=some a)↔(a<i∧ok a=true∧F a=false)
 fail: ∀a,F a=true→a<i∧ok a=true
 clo:Clo adj n C fol
 far: ∀a,F a=true→ ∀q,q<n→adj a q=true→C q=true
 num:cnt (dom fol) n+cnt F n=cnt (fun a=>decide (a<i)&&ok a) n
theorem all_ok{adj:Nat→Nat→Bool}{n:Nat}{ok:Nat→Bool}(hadj: ∀a r,adj a r=true→r<n): ∀i,i≤n→ ∃F C,Inv adj n ok i (all adj n ok i) F C
 |0,_=>⟨fun _=>false,fun _=>false,⟨fun r r' a h=>by simp[all]at h,fun r a h=>by simp[all]at h,fun a=>⟨fun⟨r,h⟩=>by simp[all]at h,fun⟨h,_⟩=>absurd h (Nat.not_lt_zero a)⟩,fun a h=>by simp at h,fun r h=>by simp at h,fun a h=>by simp at h,by
   have: ∀m,cnt (dom fun _=>none) m+cnt (fun _=>false) m=cnt (fun a=>decide (a<0)&&ok a) m:=fun m=>by
    induction m with
    |zero=>rfl
    |succ m ih=>simp only[cnt,dom]at ih⊢;simp at ih⊢;omega
   exact this n⟩⟩
 |i+1,hi=>by
  obtain⟨F,C,I⟩:=all_ok (ok:=ok) hadj i (by omega);simp only[all];by_cases hs:ok i=true
  ·rw[if_pos hs];obtain⟨s,es⟩: ∃s:St,s=⟨fun _=>false,all adj n ok i⟩:=⟨_,rfl⟩;have ef:s.fol=all adj n ok i:=by rw[es]
   have en: ∀r,s.seen r=false:=fun r=>by rw[es]
   rw[←es];rw[←ef]at I;have hM:Mt s i:=⟨fun r _ h=>by have:=(I.left i).1 ⟨r,h⟩;omega,fun r r' a _ _ h1 h2=>I.inj r r' a h1 h2⟩;have hU:unseen s n<n+1:=by
    have: ∀m,cnt (fun r=>!s.seen r) m≤m:=fun m=>by
     induction m with
     |zero=>exact Nat.le_refl _
     |succ m ih=>simp only[cnt];split<;>omega
    exact Nat.lt_succ_of_le (this n)
   obtain⟨Y,X⟩:=go_ok (adj:=adj) (n+1) i s hM hU;have K:=go_kept (adj:=adj) (n:=n) (C:=C) (n+1) i s I.clo;cases hr:go adj n (n+1) i s with
   |mk b s2=>
    rw[hr]at Y X K;simp only at Y X;cases b with
    |true=>
     have Y:=Y rfl;have far:=K.far rfl;simp only at far;obtain⟨r0,z1,z2,z3⟩:=Y.one;refine⟨F,C,fun r r' a h1 h2=>Y.inj r r' a (en r) (en r') h1 h2,fun r a h=>?_,fun a=>?_,fun a h=>?_,fun r h=>?_,I.far,?_⟩
     ·rcases Y.edge r a h with h1|h1
      ·exact I.edge r a h1
      ·exact h1
     ·constructor
      ·rintro⟨r,h⟩;rcases(Y.left a).1 ⟨r,en r,h⟩with h1|⟨r',_,h1⟩
       ·rw[h1];refine⟨by omega,hs,?_⟩;cases h2:F i
        ·rfl
        ·have:=(I.fail i h2).1;omega
       ·have:=(I.left a).1 ⟨r',h1⟩
        exact⟨by omega,this.2⟩
      ·rintro⟨h1,h2,h3⟩;have: ∃r,s.seen r=false∧s2.fol r=some a:=by
        refine(Y.left a).2 ?_;rcases Nat.lt_succ_iff_lt_or_eq.1 h1 with h4|h4
        ·obtain⟨r,h5⟩:=(I.left a).2 ⟨h4,h2,h3⟩;exact .inr ⟨r,en r,h5⟩
        ·exact .inl h4
       obtain⟨r,_,h5⟩:=this;exact⟨r,h5⟩
     ·have:=I.fail a h
      exact⟨by omega,this.2⟩
     ·obtain⟨a,h1,h2⟩:=I.clo r h;exact⟨a,by rw[far r h];exact h1,h2⟩
     ·have hr0:r0<n:=by
       cases h5:s2.fol r0 with
       |none=>exact absurd h5 z2
       |some a=>
        rcases Y.edge r0 a h5 with h6|h6
        ·rw[z1]at h6;cases h6
        ·exact hadj a r0 h6
      have e1:cnt (dom s2.fol) n=cnt (dom s.fol) n+1:=by
       refine cnt_one hr0 ?_ ?_ fun r h=>?_
       ·simp only[dom,z1];rfl
       ·cases h5:s2.fol r0 with
        |none=>exact absurd h5 z2
        |some a=>simp only[dom,h5];rfl
       ·have:=z3 r h;simp only[dom];cases h5:s2.fol r<;>cases h6:s.fol r
        ·rfl
        ·rw[h5,h6]at this;simp at this
        ·rw[h5,h6]at this;simp at this
        ·rfl
      have e2:cnt (fun a=>decide (a<i+1)&&ok a) n=cnt (fun a=>decide (a<i)&&ok a) n+1:=by
       refine cnt_one (k := i) (by omega) (by simp) (by simp [hs]) fun r h => ?_
       have:(r<i+1)↔(r<i):=by omega
       simp only[this]
      have:=I.num;simp only at e1⊢;omega
    |false=>
     obtain⟨N,Ni⟩:=X rfl;have fs:s2.fol=s.fol:=N.same;simp only;rw[fs];refine⟨fun a=>decide (a=i)||F a,fun r=>s2.seen r||C r,I.inj,I.edge,fun a=>?_,fun a h=>?_,fun r h=>?_,fun a h q hq hq2=>?_,?_⟩
     ·rw[I.left a];constructor
      ·rintro⟨h1,h2,h3⟩
       exact⟨by omega,h2,by simp[h3];omega⟩
      ·rintro⟨h1,h2,h3⟩;simp only[Bool.or_eq_false_iff,decide_eq_false_iff_not]at h3
       exact⟨by omega,h2,h3.2⟩
     ·simp only[Bool.or_eq_true,decide_eq_true_eq]at h;rcases h with rfl|h
      ·exact⟨by omega,hs⟩
      ·have:=I.fail a h
       exact⟨by omega,this.2⟩
     ·simp only[Bool.or_eq_true]at h;rcases h with h|h
      ·obtain⟨a,h1,h2⟩:=N.closed r h (en r);exact⟨a,h1,fun q hq hq2=>by simp[h2 q hq hq2]⟩
      ·obtain⟨a,h1,h2⟩:=I.clo r h;exact⟨a,h1,fun q hq hq2=>by simp[h2 q hq hq2]⟩
     ·simp only[Bool.or_eq_true,decide_eq_true_eq]at h;rcases h with rfl|h
      ·simp[Ni q hq hq2]
      ·simp[I.far a h q hq hq2]
     ·have hFi:F i=false:=by
       cases h2:F i
       ·rfl
       ·have:=(I.fail i h2).1;omega
      have e1 : cnt (fun a => decide (a = i) || F a) n = cnt F n + 1 := cnt_one (k := i) (by omega) hFi (by simp) fun r h => by simp [h]
      have e2:cnt (fun a=>decide (a<i+1)&&ok a) n=cnt (fun a=>decide (a<i)&&ok a) n+1:=by
       refine cnt_one (k := i) (by omega) (by simp) (by simp [hs]) fun r h => ?_
       have:(r<i+1)↔(r<i):=by omega
       simp only[this]
      have:=I.num;omega
  ·rw[if_neg hs];refine⟨F,C,I.inj,I.edge,fun a=>?_,fun a h=>?_,I.clo,I.far,?_⟩
   ·rw[I.left a];constructor
    ·rintro⟨h1,h2⟩
     exact⟨by omega,h2⟩
    ·rintro⟨h1,h2,h3⟩;refine⟨?_,h2,h3⟩;rcases Nat.lt_succ_iff_lt_or_eq.1 h1 with h4|h4
     ·exact h4
     ·rw[h4]at h2;exact absurd h2 hs
   ·have:=I.fail a h
    exact⟨by omega,this.2⟩
   ·rw[I.num];refine cnt_congr fun r _=>?_
    by_cases h:r=i
    ·subst h;simp[hs]
    ·have:(r<i+1)↔(r<i):=by omega
     simp only[this]
open Classical
theorem cnt_inj{p:Nat→Bool}(f:Nat→Nat){m:Nat} : ∀(n:Nat) (q:Nat→Bool),(∀r,r<n→p r=true→f r<m∧q (f r)=true)→
  (∀r s,r<n→s<n→p r=true→p s=true→f r=f s→r=s)→cnt p n≤cnt q m
 |0,_,_,_=>Nat.zero_le _
 |n+1,q,h1,h2=>by
  simp only[cnt];by_cases hp:p n=true
  ·rw[if_pos hp];obtain⟨a,b⟩:=h1 n (by omega) hp;have ih:=cnt_inj f n (fun k=>q k&&decide (k≠f n)) (fun r hr hpr=>by
    obtain⟨c,d⟩:=h1 r (by omega) hpr;refine⟨c,?_⟩;have:f r≠f n:=fun e=>by
     have:=h2 r n (by omega) (by omega) hpr hp e;omega
    simp[d,this]) (fun r s hr hs=>h2 r s (by omega) (by omega))
   have e:cnt q m=cnt (fun k=>q k&&decide (k≠f n)) m+1:=cnt_one a (by simp) b (fun r h=>by simp[h]);omega
  ·rw[if_neg hp];have:=cnt_inj f n q (fun r hr=>h1 r (by omega)) (fun r s hr hs=>h2 r s (by omega) (by omega));omega
theorem cnt_or{p q r:Nat→Bool} : ∀n,(∀x,x<n→p x=true→q x=true∨r x=true)→cnt p n≤cnt q n+cnt r n
 |0,_=>Nat.le_refl _
 |n+1,h=>by
  have ih:=cnt_or n fun x hx=>h x (by omega)
  simp only[cnt];by_cases hp:p n=true
  ·rw[if_pos hp];rcases h n (by omega) hp with h1|h1
   ·rw[if_pos h1];omega
   ·rw[if_pos h1];omega
  ·rw[if_neg hp];omega
theorem cnt_add(p q:Nat→Bool): ∀n,cnt p n=cnt (fun x=>p x&&q x) n+cnt (fun x=>p x&&!q x) n
 |0=>rfl
 |n+1=>by
  have ih:=cnt_add p q n;rcases Bool.eq_false_or_eq_true (p n)with h1|h1<;>rcases Bool.eq_false_or_eq_true (q n)with h2|h2<;>simp[cnt,h1,h2]<;>omega
theorem cnt_full: ∀m,cnt (fun _=>true) m=m
 |0=>rfl
 |m+1=>by simp[cnt,cnt_full m]
theorem cnt_mono(F:Nat→Bool): ∀{n h:Nat},F h=true→h<n→cnt F h<cnt F n
 |0,h,_,h2=>absurd h2 (Nat.not_lt_zero h)
 |n+1,h,h1,h2=>by
  simp only[cnt];rcases Nat.lt_succ_iff_lt_or_eq.1 h2 with h3|rfl
  ·have:=cnt_mono F (n:=n) h1 h3;omega
  ·rw[if_pos h1];omega
/-! ### Order, chains, no two of which hang together -/
structure Ord(adj:Nat→Nat→Bool)(n:Nat)(ok:Nat→Bool)(rk:Nat→Nat)(K:Nat):Prop where
 inn: ∀a r,adj a r=true→r<n∧ok r=true
 trans: ∀a b c,adj a b=true→adj b c=true→adj a c=true
 rank: ∀a b,adj a b=true→rk a<rk b
 top: ∀a,rk a<K
def Anti(adj:Nat→Nat→Bool)(n:Nat)(ok B:Nat→Bool):Prop:=
 (∀x,B x=true→x<n∧ok x=true)∧ ∀a b,B a=true→B b=true→adj a b=false
def PlanFor(adj:Nat→Nat→Bool)(n:Nat)(ok:Nat→Bool)(m:Nat)(p:Nat→Nat):Prop:=
 (∀a,a<n→ok a=true→p a<m)∧ ∀a b,a<n→b<n→ok a=true→ok b=true→a≠b→p a=p b→adj a b=true∨adj b a=true
inductive Up (fol:Nat→Option Nat):Nat→Nat→Prop
 |refl (a:Nat):Up fol a a
 |step {a r h:Nat} :fol r=some a→Up fol r h→Up fol a h
theorem Up.last{fol:Nat→Option Nat}{b r:Nat}(h:Up fol b r):b=r∨ ∃c,Up fol b c∧fol r=some c:=by
 induction h with
 |refl a=>exact .inl rfl
 |step e u ih=>
  rcases ih with rfl|⟨c,h1,h2⟩
  ·exact .inr ⟨_,.refl _,e⟩
  ·exact .inr ⟨c,.step e h1,h2⟩
theorem Up.or{fol:Nat→Option Nat}{a b h:Nat}(ha:Up fol a h)(hb:Up fol b h):Up fol a b∨Up fol b a:=by
 induction ha with
 |refl a=>exact .inr hb
 |step e u ih=>
  rcases ih hb with h1|h1
  ·exact .inl (.step e h1)
  ·rcases h1.last with rfl|⟨c,h2,h3⟩
   ·exact .inl (.step e (.refl _))
   ·rw[e]at h3;cases h3;exact .inr h2
theorem Up.adj{adj:Nat→Nat→Bool}{fol:Nat→Option Nat}(tr: ∀a b c,adj a b=true→adj b c=true→adj a c=true)(ed: ∀r a,fol r=some a→adj a r=true){a b:Nat}(h:Up fol a b):a=b∨adj a b=true:=by
 induction h with
 |refl a=>exact .inl rfl
 |step e u ih=>
  rcases ih with rfl|h1
  ·exact .inr (ed _ _ e)
  ·exact .inr (tr _ _ _ (ed _ _ e) h1)
theorem head_ex{adj:Nat→Nat→Bool}{n K:Nat}{ok F C:Nat→Bool}{rk:Nat→Nat}{fol:Nat→Option Nat}(O:Ord adj n ok rk K)(I:Inv adj n ok n fol F C):
  ∀d a,K-rk a≤d→a<n→ok a=true→ ∃h,Up fol a h∧F h=true
 |0,a,hd,_,_=>by
  have:=O.top a;omega
 |d+1,a,hd,ha,hk=>by
  by_cases hF:F a=true
  ·exact⟨a,.refl a,hF⟩
  ·obtain⟨r,hr⟩:=(I.left a).2 ⟨ha,hk,by simpa using hF⟩;have e:=I.edge r a hr;have h1:=O.rank a r e;have h2:=O.inn a r e;have h3:=O.top r;obtain⟨h,u,f⟩:=head_ex O I d r (by omega) h2.1 h2.2;exact⟨h,.step hr u,f⟩
theorem plan_ex{adj:Nat→Nat→Bool}{n K:Nat}{ok F C:Nat→Bool}{rk:Nat→Nat}{fol:Nat→Option Nat}(O:Ord adj n ok rk K)(I:Inv adj n ok n fol F C): ∃p,PlanFor adj n ok (cnt F n) p:=by
 have hh: ∀a,∃h,a<n→ok a=true→Up fol a h∧F h=true:=fun a=>by
  by_cases h1:a<n∧ok a=true
  ·obtain⟨h,u,f⟩:=head_ex O I _ a (Nat.le_refl _) h1.1 h1.2;exact⟨h,fun _ _=>⟨u,f⟩⟩
  ·exact⟨0,fun h2 h3=>absurd ⟨h2,h3⟩ h1⟩
 refine⟨fun a=>cnt F (choose (hh a)),fun a ha hk=>?_,fun a b ha hb hka hkb hne e=>?_⟩
 ·obtain⟨_,f⟩:=choose_spec (hh a) ha hk;exact cnt_mono F f (I.fail _ f).1
 ·obtain⟨u1,f1⟩:=choose_spec (hh a) ha hka;obtain⟨u2,f2⟩:=choose_spec (hh b) hb hkb;have e2:choose (hh a)=choose (hh b):=by
   rcases Nat.lt_trichotomy (choose (hh a)) (choose (hh b))with h|h|h
   ·have:=cnt_mono F f1 h;simp only at e;omega
   ·exact h
   ·have:=cnt_mono F f2 h;simp only at e;omega
  rw[e2]at u1;rcases u1.or u2 with h|h
  ·rcases h.adj O.trans I.edge with h1|h1
   ·exact absurd h1 hne
   ·exact .inl h1
  ·rcases h.adj O.trans I.edge with h1|h1
   ·exact absurd h1.symm hne
   ·exact .inr h1
theorem anti_ex{adj:Nat→Nat→Bool}{n K:Nat}{ok F C:Nat→Bool}{rk:Nat→Nat}{fol:Nat→Option Nat}(O:Ord adj n ok rk K)(I:Inv adj n ok n fol F C): ∃B,Anti adj n ok B∧cnt F n≤cnt B n:=by
 have hr: ∀r a,fol r=some a→r<n:=fun r a h=>(O.inn a r (I.edge r a h)).1
 obtain⟨cov,hcov⟩: ∃cov:Nat→Bool,∀a,cov a=true↔ ∃r,fol r=some a∧C r=false:=⟨fun a=>decide (∃r,fol r=some a∧C r=false),fun a=>decide_eq_true_iff⟩;refine⟨fun x=>decide (x<n)&&(ok x&&(!C x&&!cov x)),⟨fun x h=>?_,fun a b ha hb=>?_⟩,?_⟩
 ·simp only[Bool.and_eq_true,decide_eq_true_eq]at h;exact⟨h.1,h.2.1⟩
 ·simp only[Bool.and_eq_true,decide_eq_true_eq,Bool.not_eq_true']at ha hb;cases hab:adj a b
  ·rfl
  ·exfalso;by_cases hF:F a=true
   ·have:=I.far a hF b hb.1 hab;rw[this]at hb;cases hb.2.2.1
   ·obtain⟨r,hr⟩:=(I.left a).2 ⟨ha.1,ha.2.1,by simpa using hF⟩;cases hC:C r
    ·have:=(hcov a).2 ⟨r,hr,hC⟩;rw[this]at ha;cases ha.2.2.2
    ·obtain⟨a2,h1,h2⟩:=I.clo r hC;rw[hr]at h1;cases h1;have:=h2 b hb.1 hab;rw[this]at hb;cases hb.2.2.1
 ·have e1:=I.num;have e2:cnt (fun a=>decide (a<n)&&ok a) n≤cnt (fun x=>decide (x<n)&&(ok x&&(!C x&&!cov x))) n+cnt (fun x=>C x||cov x) n:=cnt_or n fun x hx h=>by
   simp only[Bool.and_eq_true,decide_eq_true_eq]at h;cases h1:C x
   ·cases h2:cov x
    ·left;simp[h.1,h.2]
    ·right;simp
   ·right;simp
  have e3:cnt (fun x=>C x||cov x) n≤cnt C n+cnt cov n:=cnt_or n fun x hx h=>by
   simpa using h
  have e4:=cnt_add (dom fol) C n;have e5:cnt C n≤cnt (fun x=>dom fol x&&C x) n:=cnt_le fun r hr h=>by
   obtain⟨a,h1,_⟩:=I.clo r h;simp[dom,h1,h]
  have e6:cnt cov n≤cnt (fun x=>dom fol x&&!C x) n:=by
   have hh: ∀a,∃r,cov a=true→fol r=some a∧C r=false:=fun a=>by
    by_cases h1:cov a=true
    ·obtain⟨r,h2⟩:=(hcov a).1 h1;exact⟨r,fun _=>h2⟩
    ·exact⟨0,fun h=>absurd h h1⟩
   refine cnt_inj (fun a=>choose (hh a)) n _ (fun a ha h=>?_) (fun a b ha hb h1 h2 e=>?_)
   ·obtain⟨h1,h2⟩:=choose_spec (hh a) h;exact⟨hr _ _ h1,by simp[dom,h1,h2]⟩
   ·obtain⟨h3,_⟩:=choose_spec (hh a) h1;obtain⟨h4,_⟩:=choose_spec (hh b) h2;rw[e,h4]at h3;exact(Option.some.inj h3).symm
  omega
theorem dilworth{adj:Nat→Nat→Bool}{n K:Nat}{ok:Nat→Bool}{rk:Nat→Nat}(O:Ord adj n ok rk K){N:Nat}(hN:cnt ok n=N+cnt (dom (all adj n ok n)) n):
  (∃p,PlanFor adj n ok N p)∧ ∃B,Anti adj n ok B∧N≤cnt B n:=by
 obtain⟨F,C,I⟩:=all_ok (adj:=adj) (n:=n) (ok:=ok) (fun a r h=>(O.inn a r h).1) n (Nat.le_refl n);have e:cnt (fun a=>decide (a<n)&&ok a) n=cnt ok n:=cnt_congr fun r hr=>by simp[hr]
 have e2:=I.num;have e3:cnt F n=N:=by omega
 rw[←e3];exact⟨plan_ex O I,anti_ex O I⟩
theorem dom_le{adj:Nat→Nat→Bool}{n K:Nat}{ok:Nat→Bool}{rk:Nat→Nat}(O:Ord adj n ok rk K):cnt (dom (all adj n ok n)) n≤cnt ok n:=by
 obtain⟨F,C,I⟩:=all_ok (adj:=adj) (n:=n) (ok:=ok) (fun a r h=>(O.inn a r h).1) n (Nat.le_refl n);have e:cnt (fun a=>decide (a<n)&&ok a) n=cnt ok n:=cnt_congr fun r hr=>by simp[hr]
 have e2:=I.num;omega
end Kuhn
/-
 Plain law of horses, part 4.
-/
namespace Kuhn
/-! ### Horses: plain numbers -/
structure HD where
 pace:Int
 n:Nat
 at':Nat→Int
 pl:Nat→Int
 lo:Nat→Int
 hi:Nat→Int
 /-- Is there a block of moves at all; how much room it has. -/
 b:Bool
 cap:Nat
namespace HD
def okMv(h:HD)(i:Nat):Prop:=(0≤h.at' i∧h.at' i≤200)∧(0≤h.pl i∧h.pl i≤30)∧1≤h.lo i∧h.lo i≤h.hi i∧h.hi i≤20
def Valid(h:HD):Prop:=(0≤h.pace∧h.pace≤3)∧h.n≤7∧ ∀i,i<h.n→h.okMv i
def takes(h:HD)(s:Bool)(i:Nat):Int:=match s with|true=>h.hi i|false=>h.lo i
def dist(h:HD)(i k:Nat):Int:=max (h.pl i-h.pl k) (h.pl k-h.pl i)
def there(h:HD)(s:Bool)(b:Int)(i k:Nat):Int:=b+h.takes s i+h.pace*h.dist i k
def can(h:HD)(s:Bool)(i k:Nat):Bool:=decide (h.there s (h.at' i) i k≤h.at' k)
def apart(h:HD)(s:Bool)(i k:Nat):Bool:=!h.can s i k&&!h.can s k i
theorem dist_nonneg(h:HD)(i k:Nat):0≤h.dist i k:=by unfold dist;omega
theorem dist_tri(h:HD)(i j k:Nat):h.dist i k≤h.dist i j+h.dist j k:=by unfold dist;omega
theorem takes_pos{h:HD}(hv:h.Valid)(s:Bool){i:Nat}(hi:i<h.n):1≤h.takes s i:=by
 have:=hv.2.2 i hi;unfold okMv at this;cases s<;>simp only[takes]<;>omega
theorem takes_le{h:HD}(hv:h.Valid)(s:Bool){i:Nat}(hi:i<h.n):h.takes s i≤20:=by
 have:=hv.2.2 i hi;unfold okMv at this;cases s<;>simp only[takes]<;>omega
theorem walk_nonneg{h:HD}(hv:h.Valid)(i k:Nat):0≤h.pace*h.dist i k:=Int.mul_nonneg hv.1.1 (h.dist_nonneg i k)
theorem dist_le{h:HD}(hv:h.Valid){i k:Nat}(hi:i<h.n)(hk:k<h.n):h.dist i k≤30:=by
 have a:=(hv.2.2 i hi).2.1;have b:=(hv.2.2 k hk).2.1;unfold dist;omega
theorem walk_le{h:HD}(hv:h.Valid){i k:Nat}(hi:i<h.n)(hk:k<h.n):h.pace*h.dist i k≤90:=by
 have a:=dist_le hv hi hk;have c:=h.dist_nonneg i k;have d:h.pace*h.dist i k≤3*h.dist i k:=Int.mul_le_mul_of_nonneg_right hv.1.2 c;omega
theorem there_le{h:HD}(hv:h.Valid)(s:Bool)(b:Int){i k:Nat}(hi:i<h.n)(hk:k<h.n):b<h.there s b i k∧h.there s b i k≤b+110:=by
 have a:=walk_le hv hi hk;have c:=walk_nonneg hv i k;have d:=takes_pos hv s hi;have e:=takes_le hv s hi;unfold there;omega
theorem can_at{h:HD}(hv:h.Valid){s:Bool}{i k:Nat}(hi:i<h.n)(hk:k<h.n)(hc:h.can s i k=true):h.at' i<h.at' k:=by
 have:=(there_le hv s (h.at' i) hi hk).1;simp only[can,decide_eq_true_eq]at hc;omega
theorem can_iff{h:HD}{s:Bool}{i k:Nat} :h.can s i k=true↔h.at' i+h.takes s i+h.pace*h.dist i k≤h.at' k:=decide_eq_true_iff
theorem can_trans{h:HD}(hv:h.Valid){s:Bool}{i j k:Nat}(hi:i<h.n)(hj:j<h.n)(hk:k<h.n)(h1:h.can s i j=true)(h2:h.can s j k=true):h.can s i k=true:=by
 rw[can_iff]at h1 h2⊢;have t:=Int.mul_le_mul_of_nonneg_left (h.dist_tri i j k) hv.1.1;rw[Int.mul_add]at t;have:=takes_pos hv s hj;omega
def adj(h:HD)(s:Bool)(ok:Nat→Bool)(a r:Nat):Bool:=decide (a<h.n)&&((decide (r<h.n)&&ok r)&&h.can s a r)
theorem adj_iff{h:HD}{s:Bool}{ok:Nat→Bool}{a r:Nat} :h.adj s ok a r=true↔a<h.n∧(r<h.n∧ok r=true)∧h.can s a r=true:=by
 simp[adj]
def okN(h:HD)(ok:Nat→Bool)(i:Nat):Bool:=decide (i<h.n)&&ok i
theorem ord{h:HD}(hv:h.Valid)(s:Bool)(ok:Nat→Bool):Ord (h.adj s ok) 7 (h.okN ok) (fun i=>if i<h.n then(h.at' i).toNat else 0) 201 where
 inn:=fun a r e=>by
  obtain⟨_,⟨h1,h2⟩,_⟩:=adj_iff.1 e;have:=hv.2.1
  exact⟨by omega,by simp[okN,h1,h2]⟩
 trans:=fun a b c e1 e2=>by
  obtain⟨a1,⟨b1,b2⟩,h1⟩:=adj_iff.1 e1;obtain⟨_,⟨c1,c2⟩,h2⟩:=adj_iff.1 e2;exact adj_iff.2 ⟨a1,⟨c1,c2⟩,can_trans hv a1 b1 c1 h1 h2⟩
 rank:=fun a b e=>by
  obtain⟨a1,⟨b1,_⟩,h1⟩:=adj_iff.1 e;have:=can_at hv a1 b1 h1;have:=(hv.2.2 a a1).1;simp only[if_pos a1,if_pos b1];omega
 top:=fun a=>by
  show(if a<h.n then(h.at' a).toNat else 0)<201;split
  ·rename_i ha;have:=(hv.2.2 a ha).1;omega
  ·omega
def need(h:HD)(s:Bool)(ok:Nat→Bool):Nat:=cnt (h.okN ok) 7-cnt (dom (all (h.adj s ok) 7 (h.okN ok) 7)) 7
def Right(h:HD)(s:Bool)(ok:Nat→Bool)(p:Nat→Int):Prop:=
 ∀i k,i<h.n→k<h.n→ok i=true→ok k=true→i≠k→p i=p k→h.apart s i k=false
theorem apart_false{h:HD}{s:Bool}{i k:Nat} :h.apart s i k=false↔h.can s i k=true∨h.can s k i=true:=by
 unfold apart;cases h.can s i k<;>cases h.can s k i<;>simp
theorem need_plan{h:HD}(hv:h.Valid)(s:Bool)(ok:Nat→Bool): ∃p:Nat→Int,(∀i,i<h.n→ok i=true→0≤p i∧p i<h.need s ok)∧h.Right s ok p:=by
 have O:=ord hv s ok;have hl:=dom_le O;obtain⟨⟨p,h1,h2⟩,_⟩:=dilworth O (N:=h.need s ok) (by unfold need;omega);have h7:=hv.2.1;have hk: ∀i,i<h.n→ok i=true→h.okN ok i=true:=fun i hi ho=>by simp[okN,hi,ho]
 refine⟨fun i=>p i,fun i hi ho=>?_,fun i k hi hk' ho ho' hne e=>?_⟩
 ·have:=h1 i (by omega) (hk i hi ho);show 0≤((p i:Nat):Int)∧((p i:Nat):Int)<h.need s ok;omega
 ·rcases h2 i k (by omega) (by omega) (hk i hi ho) (hk k hk' ho') hne (Int.ofNat.inj e)with h3|h3
  ·exact apart_false.2 (.inl (adj_iff.1 h3).2.2)
  ·exact apart_false.2 (.inr (adj_iff.1 h3).2.2)
def Alone(h:HD)(s:Bool)(B:Nat→Bool):Prop:= ∀i k,i<h.n→k<h.n→B i=true→B k=true→i≠k→h.apart s i k=true
theorem need_alone{h:HD}(hv:h.Valid)(s:Bool)(ok:Nat→Bool): ∃B:Nat→Bool,(∀i,B i=true→i<h.n∧ok i=true)∧h.Alone s B∧h.need s ok≤cnt B 7:=by
 have O:=ord hv s ok;have hl:=dom_le O;obtain⟨_,B,⟨h1,h2⟩,h3⟩:=dilworth O (N:=h.need s ok) (by unfold need;omega);have hB: ∀i,B i=true→i<h.n∧ok i=true:=fun i hi=>by
  have:=(h1 i hi).2;simpa[okN]using this
 refine⟨B,hB,fun i k hi hk bi bk hne=>?_,h3⟩;have e1:=h2 i k bi bk;have e2:=h2 k i bk bi;have f1:h.can s i k=false:=by
  cases c:h.can s i k
  ·rfl
  ·rw[adj_iff.2 ⟨(hB i bi).1,hB k bk,c⟩]at e1;cases e1
 have f2:h.can s k i=false:=by
  cases c:h.can s k i
  ·rfl
  ·rw[adj_iff.2 ⟨(hB k bk).1,hB i bi,c⟩]at e2;cases e2
 simp[apart,f1,f2]
theorem alone_le{h:HD}{s:Bool}{ok B:Nat→Bool}{p:Nat→Int}{m:Nat}(hB: ∀i,B i=true→i<h.n∧ok i=true)(ha:h.Alone s B)(hp:h.Right s ok p)(hm: ∀i,i<h.n→ok i=true→0≤p i∧p i<m):cnt B 7≤m:=by
 have:=cnt_inj (p:=B) (fun i=>(p i).toNat) (m:=m) 7 (fun _=>true) (fun r hr b=>⟨by
  have:=hm r (hB r b).1 (hB r b).2;omega,rfl⟩) (fun r t hr ht b1 b2 e=>by
  by_cases c:r=t
  ·exact c
  ·have a1:=hm r (hB r b1).1 (hB r b1).2;have a2:=hm t (hB t b2).1 (hB t b2).2;have:=hp r t (hB r b1).1 (hB t b2).1 (hB r b1).2 (hB t b2).2 c (by omega);rw[ha r t (hB r b1).1 (hB t b2).1 b1 b2 c]at this;cases this)
 rwa [cnt_full]at this
theorem need_le{h:HD}(hv:h.Valid){s:Bool}{ok:Nat→Bool}{p:Nat→Int}{m:Nat}(hp:h.Right s ok p)(hm: ∀i,i<h.n→ok i=true→0≤p i∧p i<m):h.need s ok≤m:=by
 obtain⟨B,h1,h2,h3⟩:=need_alone hv s ok;exact Nat.le_trans h3 (alone_le h1 h2 hp hm)
end HD
end Kuhn
/-
 Plain law of horses, part 5.
-/
namespace Kuhn
namespace HD
/-! ### Plans, one after the other -/
def fits(h:HD)(s:Bool)(L:List Int)(x:Int):Bool:=(List.range L.length).all fun k=>!(decide (L.getD k 0=x)&&h.apart s L.length k)
def ways(h:HD)(s:Bool)(ok:Nat→Bool)(N:Nat):Nat→List Int→List (List Int)
 |0,L=>[L]
 |r+1,L=>match ok L.length with
  |true=>(List.range N).flatMap fun x:Nat=>match h.fits s L (x:Int)with
   |true=>ways h s ok N r (L++[(x:Int)])
   |false=>[]
  |false=>ways h s ok N r (L++[-1])
structure OkL(h:HD)(s:Bool)(ok:Nat→Bool)(N:Nat)(L:List Int):Prop where
 yes: ∀k,k<L.length→ok k=true→0≤L.getD k 0∧L.getD k 0<N
 no: ∀k,k<L.length→ok k=false→L.getD k 0= -1
 right: ∀i k,i<k→k<L.length→ok k=true→L.getD i 0=L.getD k 0→h.apart s k i=false
theorem OkL.nil{h:HD}{s:Bool}{ok:Nat→Bool}{N:Nat} :OkL h s ok N []:=⟨fun k hk=>by simp at hk,fun k hk=>by simp at hk,fun i k _ hk=>by simp at hk⟩
def full:Nat→Bool:=fun _=>true
def few(h:HD)(s:Bool):Nat:=h.need s full
def plan(h:HD)(s:Bool):List Int:=(h.ways s full (h.few s) h.n []).headD []
end HD
end Kuhn
/-
 Plain law of horses, part 6.
-/
namespace Kuhn
/-! ### Sets of moves, by size -/
def pop(S:Nat):Nat:=cnt (fun i=>S.testBit i) 7
def setsL(up:Bool)(n:Nat):List Nat:=(List.range (n+1)).flatMap fun i=>(List.range (2^n)).filter fun S=>decide (pop S=match up with|true=>i|false=>n-i)
def Prior(up:Bool)(S T:Nat):Prop:=(match up with|true=>pop S<pop T|false=>pop T<pop S)∨pop S=pop T∧S<T
theorem find_least{α:Type}{R:α→α→Prop}{P:α→Bool}{S T:α} : ∀{l:List α},l.Pairwise R→l.find? P=some S→T∈l→P T=true→S=T∨R S T
 |[],_,h,_,_=>by simp at h
 |x::l,hp,h,hT,hP=>by
  rw[List.pairwise_cons]at hp;rw[List.find?_cons]at h;split at h
  ·cases h;rcases List.mem_cons.1 hT with h1|h1
   ·exact .inl h1.symm
   ·exact .inr (hp.1 T h1)
  ·rename_i hx;rcases List.mem_cons.1 hT with h1|h1
   ·subst h1;rw[hP]at hx;simp at hx
   ·exact find_least hp.2 h h1 hP
theorem setsL_pair(up:Bool)(n:Nat):(setsL up n).Pairwise (Prior up):=by
 unfold setsL;rw[List.pairwise_flatMap];constructor
 ·intro i _;refine(List.Pairwise.filter _ List.pairwise_lt_range).imp_of_mem ?_;intro S T hS hT h;simp only[List.mem_filter,decide_eq_true_eq]at hS hT;exact .inr ⟨hS.2.trans hT.2.symm,h⟩
 ·refine List.pairwise_lt_range.imp_of_mem ?_;intro i j hi hj h S hS T hT;simp only[List.mem_filter,decide_eq_true_eq]at hS hT;rw[List.mem_range]at hi hj;left;cases up<;>simp only at hS hT⊢ <;>omega
theorem cnt_bnd(p:Nat→Bool): ∀m,cnt p m≤m
 |0=>Nat.le_refl _
 |m+1=>by
  have:=cnt_bnd p m;rw[cnt];split<;>omega
theorem cnt_cut{p:Nat→Bool}{n:Nat}(h: ∀i,n≤i→p i=false): ∀m,cnt p (n+m)=cnt p n
 |0=>rfl
 |m+1=>by
  rw[←Nat.add_assoc,cnt,cnt_cut h m,h (n+m) (by omega)];simp
theorem pop_le{S n:Nat}(hn:n≤7)(h:S<2^n):pop S≤n:=by
 have e:pop S=cnt (fun i=>S.testBit i) n:=by
  have:=cnt_cut (p:=fun i=>S.testBit i) (n:=n) (fun i hi=>Nat.testBit_lt_two_pow (Nat.lt_of_lt_of_le h (Nat.pow_le_pow_right (by omega) hi))) (7-n);rw[show n+(7-n)=7 by omega]at this;exact this
 rw[e];exact cnt_bnd _ _
theorem mem_setsL{up:Bool}{S n:Nat}(hn:n≤7):S∈setsL up n↔S<2^n:=by
 unfold setsL;rw[List.mem_flatMap];constructor
 ·rintro⟨i,_,h⟩;exact List.mem_range.1 (List.mem_filter.1 h).1
 ·intro h;have:=pop_le hn h;refine⟨match up with|true=>pop S|false=>n-pop S,List.mem_range.2 ?_,List.mem_filter.2 ⟨List.mem_range.2 h,?_⟩⟩
  ·cases up<;>simp only<;>omega
  ·cases up<;>simp only[decide_eq_true_eq];omega
theorem first_set{up:Bool}{P:Nat→Bool}{n S:Nat}(hn:n≤7)(h:(setsL up n).find? P=some S):S<2^n∧P S=true∧ ∀T,T<2^n→P T=true→S=T∨Prior up S T:=
 ⟨(mem_setsL hn).1 (List.mem_of_find?_eq_some h),List.find?_some h,fun T hT hP=>find_least (setsL_pair up n) h ((mem_setsL hn).2 hT) hP⟩
theorem first_ex{up:Bool}{P:Nat→Bool}{n T:Nat}(hn:n≤7)(hT:T<2^n)(hP:P T=true): ∃S,(setsL up n).find? P=some S:=by
 cases h:(setsL up n).find? P with
 |some S=>exact⟨S,rfl⟩
 |none=>
  have:=List.find?_eq_none.1 h T ((mem_setsL hn).2 hT);exact absurd hP this
end Kuhn
