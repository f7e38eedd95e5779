/-
  Parts: Sy22, Sy23, Sy24, Sy26, Sy27, Sy28.
-/
import Derived.Test.YtioajogaghgipaaP11
import Derived.RangeFuncRecord
set_option linter.unusedVariables false
/-
 Sy22: ranges over functions: the statement, one round, and how a function that has such a loop leaves. No program is named.
-/
namespace Go.Sy

def setPs : List (Option SV) → List Nat → List SV → List (Option SV)
 | T, t :: ts, a :: as => setPs (T.set t (some a)) ts as
 | T, _, _ => T
def toTm : List (Option SV) → Tm
 | [] => []
 | none :: T => none :: toTm T
 | some v :: T => some (none, v) :: toTm T
def offTm : Tm → List (Option SV)
 | [] => []
 | some (none, v) :: T => some v :: offTm T
 | _ :: T => none :: offTm T
theorem toTm_rel {η : Nam} {T : List (Option SV)} {tmps : Array Value} (h : relT η T tmps) : TRel η (toTm T) tmps := by
 have key : ∀ (T : List (Option SV)), (toTm T).length = T.length ∧ ∀ (k : Nat) (g : Option Bool) (sv : SV), (toTm T)[k]? = some (some (g, sv)) → g = none ∧ T[k]? = some (some sv) := by
  intro T
  induction T with
  | nil => exact ⟨rfl, fun k g sv h => by simp [toTm] at h⟩
  | cons x T ih =>
   cases x with
   | none =>
    refine ⟨by simp [toTm, ih.1], fun k g sv h => ?_⟩
    cases k with
    | zero => simp [toTm] at h
    | succ k => simpa [toTm] using ih.2 k g sv (by simpa [toTm] using h)
   | some v =>
    refine ⟨by simp [toTm, ih.1], fun k g sv h => ?_⟩
    cases k with
    | zero => simp [toTm] at h; obtain ⟨rfl, rfl⟩ := h; exact ⟨rfl, rfl⟩
    | succ k => simpa [toTm] using ih.2 k g sv (by simpa [toTm] using h)
 refine ⟨by rw [h.1, (key T).1], fun k g sv hk => ?_⟩
 obtain ⟨rfl, h2⟩ := (key T).2 k g sv hk
 exact ⟨fun _ => h.2 k sv h2, fun hf => by cases hf⟩
theorem offTm_rel {η : Nam} {T : Tm} {tmps : Array Value} (h : TRel η T tmps) : relT η (offTm T) tmps := by
 have key : ∀ (T : Tm), (offTm T).length = T.length ∧ ∀ (k : Nat) (sv : SV), (offTm T)[k]? = some (some sv) → T[k]? = some (some (none, sv)) := by
  intro T
  induction T with
  | nil => exact ⟨rfl, fun k sv h => by simp [offTm] at h⟩
  | cons x T ih =>
   match x with
   | none =>
    refine ⟨by simp [offTm, ih.1], fun k sv h => ?_⟩
    cases k with
    | zero => simp [offTm] at h
    | succ k => simpa [offTm] using ih.2 k sv (by simpa [offTm] using h)
   | some (none, v) =>
    refine ⟨by simp [offTm, ih.1], fun k sv h => ?_⟩
    cases k with
    | zero => simp [offTm] at h; subst h; simp
    | succ k => simpa [offTm] using ih.2 k sv (by simpa [offTm] using h)
   | some (some g, v) =>
    refine ⟨by simp [offTm, ih.1], fun k sv h => ?_⟩
    cases k with
    | zero => simp [offTm] at h
    | succ k => simpa [offTm] using ih.2 k sv (by simpa [offTm] using h)
 refine ⟨by rw [h.1, (key T).1], fun k sv hk => ?_⟩
 exact (h.2 k none sv ((key T).2 k sv hk)).1 rfl
theorem relT.setPs {η : Nam} : ∀ {T : List (Option SV)} {ps : List Nat} {args : List SV} {vs : List Value} {tmps : Array Value}, relT η T tmps → denL η args = some vs →
  relT η (Go.Sy.setPs T ps args) ((ps.zip vs).foldl (fun tmps (t, a) => tmps.setIfInBounds t a) tmps)
 | T, [], args, vs, tmps, h, _ => by simpa [Go.Sy.setPs] using h
 | T, p :: ps, [], vs, tmps, h, hd => by simp only [denL, Option.some.injEq] at hd; subst hd; simpa [Go.Sy.setPs] using h
 | T, p :: ps, x :: xs, vs, tmps, h, hd => by
  obtain ⟨a, as, ha, has, rfl⟩ := denL_cons.1 hd
  simp only [Go.Sy.setPs, List.zip_cons_cons, List.foldl_cons]
  refine relT.setPs ⟨by simp [h.1], fun k sv hk => ?_⟩ has
  rw [List.getElem?_set] at hk
  simp only [Array.getElem?_setIfInBounds]
  split at hk
  ·rename_i hpk
   subst hpk
   split at hk
   ·rename_i hl
    simp only [Option.some.injEq] at hk
    subst hk
    exact ⟨a, ha, by simp [h.1, hl]⟩
   ·cases hk
  ·rename_i hpk
   rw [if_neg hpk]
   exact h.2 k sv hk

theorem Sat.turn {η : Nam} {φ : Feet} {h : SHeap} {w0 : World} {Ef : Nat → Prop} {w : World} {i : Nat} {T : List (Option SV)} {ps : Array Nat} {a b : Code} {st : LoopState} {p : Option Code} {ad : Nat × Nat} (s : Sat η φ h w0 Ef w)
  (hi : h[i]? = some (some (.loopr T ps a b st p))) (ha : η i = some ad) : ∃ r : Loop, w.heap[ad.1]? = some (.loop r) ∧ r.state = st ∧ r.pending = p ∧
   ∀ st' p', Sat η φ (h.set i (some (.loopr T ps a b st' p'))) w0 Ef (w.putObj ad.1 (.loop { r with state := st', pending := p' })) := by
 obtain ⟨fn, d, tmps, hT, hw⟩ := s.holds i _ ad hi ha
 refine ⟨_, hw, rfl, rfl, fun st' p' => ?_⟩
 have hlt : ad.1 < w.heap.size := by
  rcases Nat.lt_or_ge ad.1 w.heap.size with h | h
  ·exact h
  ·rw [Array.getElem?_eq_none h] at hw; cases hw
 refine s.upd (o' := .loopr T ps a b st' p') hi ha rfl (fun b hb => hb) (by simp) (fun b hb => World.putObj_heap_other (fun e => hb e.symm)) ⟨fn, d, tmps, hT, ?_⟩
 rw [World.putObj_heap_same hlt]

def rndE (i : Nat) (K : CE → SHeap → Prop) (j : Option Code) (s : St) : Prop :=
 match s.H[i]? with
 | some (some (.loopr T ps a b _ _)) => match j with
  | none => fcL (s.H.set i (some (.loopr T ps a b .ready none))) fun H => K (.ret (.bool true)) H
  | some c => fcL (s.H.set i (some (.loopr T ps a b .done (some c)))) fun H => K (.ret (.bool false)) H
 | _ => False
def rndK (i : Nat) (K : CE → SHeap → Prop) : KS := fun se s ob => match se with
 | .normal => fcP ob fun ob => AllP ob ∧ rndE i K none s
 | .ret => fcP ob fun ob => AllP ob ∧ rndE i K (some .ret) s
 | .exit id => fcP ob fun ob => AllP ob ∧ rndE i K (some (.exit id)) s
 | _ => False
theorem rndK_good (i : Nat) (K : CE → SHeap → Prop) : Good (rndK i K) := by
 intro se s ob h
 unfold rndK at h
 split at h
 ·rw [fcP_eq] at h; exact h.1
 ·rw [fcP_eq] at h; exact h.1
 ·rw [fcP_eq] at h; exact h.1
 ·exact h.elim
def begK (E : Env) (P : Program) (l n i : Nat) (body : Code) (K : CE → SHeap → Prop) : KS := fun se s ob => match se with
 | .normal => match s.H[i]? with
  | some (some (.loopr T ps a b .ready p)) => fcL (s.H.set i (some (.loopr T ps a b .busy p))) fun H => X E P (some l) n body ⟨s.T, H, s.D⟩ ob (rndK i K)
  | _ => False
 | _ => False
theorem begK_good (E : Env) (P : Program) (l n i : Nat) (body : Code) (K : CE → SHeap → Prop) : Good (begK E P l n i body K) := by
 intro se s ob h
 unfold begK at h
 split at h
 ·split at h
  ·rw [fcL_eq] at h; exact X_owed body _ _ _ (rndK_good i K) h
  ·exact h.elim
 ·exact h.elim

theorem roundP {E : Env} {P : Program} (hE : E.ok P) {i : Nat} {args : List SV} {h : SHeap} {K : CE → SHeap → Prop} {T : List (Option SV)} {ps : Array Nat} {assign body : Code}
  (hi : h[i]? = some (some (.loopr T ps assign body .ready none))) (hl : args.length = ps.size)
  (hx : ∀ l, X E P (some l) h.length assign ⟨toTm (setPs T ps.toList args), h, []⟩ [] (begK E P l h.length i body K)) : YieldP P i args h K := by
 intro η φ w0 Ef w vs hs hd
 obtain ⟨ad, had⟩ := hs.named i _ hi
 obtain ⟨fn, d, tmps, hT, hw⟩ := hs.holds i _ ad hi had
 have hsz : vs.toArray.size = ps.size := by simp [denL_length hd, hl]
 have hlt := lt_of_get hi
 have run := run_yield (P := P) hw (args := vs.toArray) hsz
 refine ⟨ad, _, _, _, _, had, run, ?_⟩
 refine roundIn_of_wpIn (F := Fw none) (n := 0) trivial ?_
 have hT' := hT.setPs (ps := ps.toList) hd
 have e0 : (ps.zip vs.toArray).foldl (fun tmps (t, a) => tmps.setIfInBounds t a) tmps = (ps.toList.zip vs).foldl (fun tmps (t, a) => tmps.setIfInBounds t a) tmps := by
  rw [← Array.foldl_toList]
  simp
 have c1 := X_ok hE assign _ _ _ (fun se s => ∃ ob, begK E P ad.1 h.length i body K se s ob) (begK_good E P ad.1 h.length i body K) (fun se s ob hk => ⟨ob, hk⟩) (hx ad.1) η η φ w0 Ef w
  { tmps := (ps.toList.zip vs).foldl (fun tmps (t, a) => tmps.setIfInBounds t a) tmps, defers := [] } (Pin.refl _ _) (Nat.le_refl _) hs (toTm_rel hT') rfl
 rw [← e0] at c1
 refine wpIn_mono c1 ?_
 rintro e a1 w1 ⟨se, s1, η1, φ1, ⟨ob, k⟩, p1, p2, pe, p3, p4, p5⟩
 unfold begK at k
 split at k
 ·have pe : e = .normal := pe
  subst pe
  split at k
  ·rename_i T1 ps1 b1 b2 p hH
   rw [fcL_eq] at k
   have had1 : η1 i = some ad := by rw [p1 i hlt]; exact had
   obtain ⟨r, hr, hst, hpe, hturn⟩ := p3.turn hH had1
   refine ⟨_, run_beginRound hr hst, ?_⟩
   subst hpe
   have s2 := hturn .busy r.pending
   have c2 := X_ok hE body _ _ _ (fun se s => ∃ ob, rndK i K se s ob) (rndK_good i K) (fun se s ob hk => ⟨ob, hk⟩) k η η1 φ1 w0 Ef _ a1 p1 (by simpa using p2) s2 p4 p5
   refine wpIn_mono c2 ?_
   rintro e a2 w2 ⟨se, s2, η2, φ2, ⟨ob, k⟩, q1, q2, qe, q3, q4, q5⟩
   have had2 : η2 i = some ad := by rw [q1 i hlt]; exact had
   have fin : ∀ (j : Option Code), rndE i K j s2 → ∃ v w', (Instr.endRound ad.1 j).run P w2 = .ok v w' ∧ ∃ ce h' η' φ', K ce h' ∧ h.length ≤ h'.length ∧ Pin h.length η η' ∧ cRel η' ce (.returned v) ∧ Sat η' φ' h' w0 Ef w' := by
    intro j hj
    unfold rndE at hj
    split at hj
    ·rename_i T2 ps2 b3 b4 st2 p2' hH2
     obtain ⟨r2, hr2, _, _, hturn2⟩ := q3.turn hH2 had2
     refine ⟨_, _, run_endRound j hr2, ?_⟩
     cases j with
     | none =>
      simp only [fcL_eq] at hj
      exact ⟨_, _, η2, φ2, hj, by simpa using q2, q1, ⟨_, rfl, rfl⟩, by simpa using hturn2 .ready none⟩
     | some c =>
      simp only [fcL_eq] at hj
      exact ⟨_, _, η2, φ2, hj, by simpa using q2, q1, ⟨_, rfl, rfl⟩, by simpa using hturn2 .done (some c)⟩
    ·exact hj.elim
   unfold rndK at k
   split at k
   ·have qe : e = .normal := qe
    subst qe
    rw [fcP_eq] at k
    exact fin none k.2
   ·have qe : e = .ret := qe
    subst qe
    rw [fcP_eq] at k
    exact fin (some .ret) k.2
   ·rename_i id
    have qe : e = .exit id := qe
    subst qe
    rw [fcP_eq] at k
    exact fin (some (.exit id)) k.2
   ·exact k.elim
  ·exact k.elim
 ·exact k.elim

def isDfr (o : Obj) : Prop := o = .deferred (some [])

theorem rangeP {E : Env} {P : Program} (hE : E.ok P) {n : Nat} {f : Operand} {ps : Array Nat} {assign body : Code} {s : St} {K : SE → St → Prop} {g : Nat} {first cap : List SV}
  (hf : ldG s.T s.H f = some (none, .fn (.func g) first cap)) (hg : E.fn g = true)
  (hc : CallP P g (first ++ (.yld (s.H.length + 1) :: cap)) (s.H ++ [some (.obj isDfr), some (.loopr (offTm s.T) ps assign body .ready none)]) fun ce H => match ce with
   | .panic v => K (.panic v) ⟨s.T, H, .yld s.H.length :: s.D⟩
   | .ret _ => match H[s.H.length + 1]? with
    | some (some (.loopr T ps a b st p)) => st ≠ .busy ∧ fcL (H.set (s.H.length + 1) (some (.loopr T ps a b .exhausted p))) fun H => match p with
     | none => K .normal ⟨s.T, H, .yld s.H.length :: s.D⟩
     | some c => CodeP P none n c ⟨s.T, H, .yld s.H.length :: s.D⟩ K
    | _ => False) : CodeP P none n (.rangeFunc f ps assign body) s K := by
 intro η0 η φ w0 Ef w a h1 h2 h3 h4 h5
 have hdf := ldG_ok h3 h4 hf rfl
 simp only [den, Option.bind_eq_some_iff, Option.map_eq_some_iff] at hdf
 obtain ⟨fs, hfs, cs, hcs, hev⟩ := hdf
 refine wpIn_rangeFunc fun fn _ => ?_
 let W1 := w.alloc (.deferred (some []))
 let L : Loop := { state := .ready, pending := none, fn, tmps := a.tmps, params := ps, assign, body, defers := w.heap.size }
 let W2 := W1.alloc (.loop L)
 let η1 := η.put s.H.length (w.heap.size, 0)
 let η2 := η1.put (s.H.length + 1) (w.heap.size + 1, 0)
 have r0 := h3.room 2
 have n0 : (s.H ++ List.replicate 2 none)[s.H.length]? = some none := by simp
 have s1 : Sat η1 φ ((s.H ++ List.replicate 2 none).set s.H.length (some (.obj isDfr))) w0 Ef W1 := r0.new (o := .obj isDfr) (ob := .deferred (some [])) n0 rfl (fun b hb => hb.symm) ⟨.deferred (some []), by simp, rfl⟩
 have n1 : ((s.H ++ List.replicate 2 none).set s.H.length (some (.obj isDfr)))[s.H.length + 1]? = some none := by
  rw [List.getElem?_set_ne (by omega)]
  simp
 have hsz1 : W1.heap.size = w.heap.size + 1 := World.size_alloc w _
 have hnone0 : η s.H.length = none := r0.free fun o => by rw [n0]; simp
 have hle1 : η.le η1 := Nam.le_put hnone0
 have hnone1 : η1 (s.H.length + 1) = none := s1.free fun o => by rw [n1]; simp
 have hle2 : η1.le η2 := Nam.le_put hnone1
 have hle : η.le η2 := hle1.trans hle2
 have hoth2 : ∀ j, j ≠ s.H.length + 1 → η2 j = η1 j := fun j hj => Nam.put_other _ _ hj
 have hoth1 : ∀ j, j ≠ s.H.length → η1 j = η j := fun j hj => Nam.put_other _ _ hj
 have s2 : Sat η2 φ (((s.H ++ List.replicate 2 none).set s.H.length (some (.obj isDfr))).set (s.H.length + 1) (some (.loopr (offTm s.T) ps assign body .ready none))) w0 Ef W2 := by
  have := s1.new (o := .loopr (offTm s.T) ps assign body .ready none) (ob := .loop L) n1 rfl (fun b hb => hb.symm) ⟨fn, w.heap.size, a.tmps, ?_, by simp [L]⟩
  ·rw [hsz1] at this
   exact this
  ·rw [hsz1]
   exact (offTm_rel h4).mono hle
 have eH : ((s.H ++ List.replicate 2 none).set s.H.length (some (.obj isDfr))).set (s.H.length + 1) (some (.loopr (offTm s.T) ps assign body .ready none)) = s.H ++ [some (.obj isDfr), some (.loopr (offTm s.T) ps assign body .ready none)] := by
  simp [List.replicate]
 rw [eH] at s2
 have e2 : η2 (s.H.length + 1) = some (w.heap.size + 1, 0) := Nam.put_same _ _ _
 have e1 : η2 s.H.length = some (w.heap.size, 0) := (hoth2 _ (by omega)).trans (Nam.put_same _ _ _)
 have hpin : Pin s.H.length η η2 := fun i hi => (hoth2 i (by omega)).trans (hoth1 i (by omega))
 have hd : denL η2 (first ++ (.yld (s.H.length + 1) :: cap)) = some (fs ++ (.func (.yield (w.heap.size + 1)) #[] #[] :: cs)) :=
  denL_append (denL_mono hle _ _ hfs) (denL_cons.2 ⟨_, _, by simp [den, e2], denL_mono hle _ _ hcs, rfl⟩)
 refine ⟨w.heap.size + 1, [{ target := .collected w.heap.size, args := #[] }], W2, { target := .fn (.func g) cs.toArray, args := fs.toArray ++ #[.func (.yield (w.heap.size + 1)) #[] #[]] }, W2, g, (fs ++ (.func (.yield (w.heap.size + 1)) #[] #[] :: cs)).toArray, W2, ?_, ?_, fun _ _ => trivial, ?_, fun h => by simp [Fw, Fence.wide] at h, ?_⟩
 ·exact run_enterLoop_outer fn a.tmps ps assign body
 ·simp only [resolve, ← hev, Deferred.ofValue]
  simp [Act.eval]
 ·simp only [invoke]
  rw [run_callFunc hE hg]
  simp
 ·refine callsIn_fw ((hc η2 φ w0 Ef W2 _ s2 hd).mono ?_)
  rintro e w3 ⟨ce, H, η3, φ3, k, hl, hp, hce, hs3⟩
  have hle3 := Nam.le_of_pin s2 hp
  have hT3 : TRel η3 s.T a.tmps := h4.mono (hle.trans hle3)
  have hl' : s.H.length + 2 ≤ H.length := by simpa using hl
  have hp0 : Pin n η0 η3 := (h1.trans hpin h2).trans hp (by simp; omega)
  have m1 : η3 s.H.length = some (w.heap.size, 0) := hle3 _ _ e1
  have m2 : η3 (s.H.length + 1) = some (w.heap.size + 1, 0) := hle3 _ _ e2
  have hD3 : DRel η3 (.yld s.H.length :: s.D) ({ target := .collected w.heap.size, args := #[] } :: a.defers) := by
   have := h5.mono (hle.trans hle3)
   unfold DRel at this ⊢
   rw [List.mapM_cons, this]
   simp [denD, m1]
  cases ce with
  | panic v =>
   obtain ⟨u, hu, rfl⟩ := hce
   exact ⟨_, _, η3, φ3, k, hp0, by simp; omega, ⟨u, hu, rfl⟩, hs3, hT3, hD3⟩
  | ret v =>
   obtain ⟨u, hu, rfl⟩ := hce
   simp only at k
   split at k
   ·rename_i T ps' b1 b2 st p hH
    obtain ⟨hst, k⟩ := k
    rw [fcL_eq] at k
    obtain ⟨r, hr, e3, e4, hturn⟩ := hs3.turn hH m2
    refine ⟨r.pending, _, run_endLoop hr (by rw [e3]; exact hst), ?_⟩
    have hs4 := hturn .exhausted p
    rw [← e4] at hs4
    rw [e4] at hs4 ⊢
    cases p with
    | none => exact ⟨_, _, η3, φ3, k, hp0, by simp; omega, rfl, by simpa [← e4] using hs4, hT3, hD3⟩
    | some c => exact k η0 η3 φ3 w0 Ef _ _ hp0 (by simp; omega) (by simpa [← e4] using hs4) hT3 hD3
   ·exact k.elim
end Go.Sy
/-
 Sy23: how a function that has a range over a function leaves; a cell that holds a slice with its array is one block. No program is named.
-/
namespace Go.Sy

theorem Sat.take {η : Nam} {φ : Feet} {h : SHeap} {w0 : World} {Ef : Nat → Prop} {w : World} {m : Nat} {I : Obj → Prop} {ad : Nat × Nat} (s : Sat η φ h w0 Ef w)
  (hm : h[m]? = some (some (.obj I))) (hI : ∀ o, I o → o = .deferred (some [])) (ha : η m = some ad) : w.heap[ad.1]? = some (.deferred (some [])) ∧ Sat η φ (h.set m (some .dead)) w0 Ef (w.putObj ad.1 (.deferred none)) := by
 obtain ⟨o, hw, ho⟩ := s.holds m _ ad hm ha
 have := hI o ho
 subst this
 refine ⟨hw, s.upd (o' := .dead) hm ha rfl (fun b hb => hb.elim) (by simp) (fun b hb => World.putObj_heap_other (fun e => hb e.symm)) trivial⟩

def endM (E : Env) (rs : List ResultVar) (K : SV → SHeap → Prop) (s : St) (ob : List Prop) : Prop :=
 match s.D with
 | [.yld m] => match s.H[m]? with
  | some (some (.obj I)) => fcP ob fun ob => AllP ob ∧ (∀ o, I o → o = .deferred (some [])) ∧ fcL (s.H.set m (some .dead)) fun H => match resL E ⟨s.T, H, []⟩ rs with
   | some (vs, ob') => fcP ob' fun ob' => AllP ob' ∧ fcV (resOne vs) fun v => K v H
   | none => False
  | _ => False
 | _ => False
def retKM (E : Env) (rs : List ResultVar) (K : SV → SHeap → Prop) : KS := fun se s ob => match se with
 | .normal => endM E rs K s ob
 | .ret => endM E rs K s ob
 | _ => False
theorem retKM_good (E : Env) (rs : List ResultVar) (K : SV → SHeap → Prop) : Good (retKM E rs K) := by
 have key : ∀ s ob, endM E rs K s ob → AllP ob := by
  intro s ob h
  unfold endM at h
  split at h
  ·split at h
   ·rw [fcP_eq] at h; exact h.1
   ·exact h.elim
  ·exact h.elim
 intro se s ob h
 unfold retKM at h
 split at h
 ·exact key _ _ h
 ·exact key _ _ h
 ·exact h.elim

theorem drel_mark {η : Nam} {m : Nat} {D : List SV} {ds : List Deferred} (h : DRel η (.yld m :: D) ds) : ∃ ad ds', η m = some ad ∧ ds = { target := .collected ad.1, args := #[] } :: ds' ∧ DRel η D ds' := by
 unfold DRel at h
 simp only [List.mapM_cons, denD, Option.bind_eq_bind, Option.bind_eq_some_iff, Option.map_eq_some_iff, Option.pure_def, Option.some.injEq] at h
 obtain ⟨d, ⟨ad, had, rfl⟩, ds', h2, rfl⟩ := h
 exact ⟨ad, ds', had, rfl, h2⟩

def LeavesQ (P : Program) (fn : Func) (tmps : Array Value) (R : Ending → World → Prop) (ds : List Deferred) (u : FrameMode) (w : World) : Prop :=
 Leaves P fn tmps R ds u w ∨ ∃ r w' d ds', ds = d :: ds' ∧ d.target = .collected r ∧ u ≠ .run ∧ (Instr.takeDeferred r).run P w = .ok [] w' ∧ Leaves P fn tmps R ds' u w'
theorem leavesQ_steps {P : Program} {fn : Func} {tmps : Array Value} {R : Ending → World → Prop} (ds : List Deferred) (u : FrameMode) (w : World) (fr : Frame)
  (cs : List Frame) (hu : fr.mode = u) (hd : fr.defers = ds) (ht : fr.tmps = tmps) (hf : P.funcs[fr.fn]? = some fn) (hk : fr.kind = .normal) (h : LeavesQ P fn tmps R ds u w) :
  ∃ e w' fr', R e w' ∧ Comes P (lone fr cs w) (lone fr' cs w') e ∧ fr'.fn = fr.fn ∧ fr'.leaving P w' e := by
 rcases h with h | ⟨r, w', d, ds', hds, htar, hrun, htake, h⟩
 ·exact leaves_steps ds u w fr cs hu hd ht hf hk h
 ·rw [hds] at hd
  have h1 := step_collected (cs := cs) (hu ▸ hrun) hd htar htake
  obtain ⟨e', w'', fr', hR', hs', hfn', hl'⟩ := leaves_steps ds' u w' { fr with defers := [] ++ ds' } cs hu rfl ht hf hk h
  exact ⟨e', w'', fr', hR', Comes.of_steps (.one h1) hs', hfn', hl'⟩
def bodyPostQ (P : Program) (fn : Func) (R : Ending → World → Prop) : Exit → Act → World → Prop
 | .normal, a, w | .ret, a, w => LeavesQ P fn a.tmps R a.defers .returning w
 | .panic chain, a, w => LeavesQ P fn a.tmps R a.defers (.panicking chain) w
 | .outgrown, _, w => R .outgrown w
 | _, _, _ => False
theorem calls_of_wpQ {P : Program} {f : FuncId} {fn : Func} {c : Code} {args : Array Value} {w : World} {R : Ending → World → Prop}
  (hf : P.funcs[f]? = some fn) (hb : fn.body = some c)
  (h : c.wp P (bodyPostQ P fn R) { tmps := args ++ Array.replicate (fn.ntmps - args.size) undef, defers := [] } w) : Calls P f args w R := by
 intro cs
 let b : Frame := { (default : Frame) with fn := f, kind := .normal }
 have henter : Frame.enter P f args .normal =
   b.at { tmps := args ++ Array.replicate (fn.ntmps - args.size) undef, defers := [] } [.code c] := by
  simp [Frame.enter, Frame.at, hf, hb, b]
 obtain ⟨e, a', w', hq, harr⟩ := h b [] cs
 rw [← henter] at harr
 cases e with
 | normal =>
  obtain ⟨e', w'', fr', hR, hs, hfn, hl⟩ := leavesQ_steps a'.defers .returning w' { b.at a' [] with mode := .returning } cs rfl rfl rfl hf rfl hq
  exact ⟨e', w'', fr', hR, Comes.of_steps (Steps.trans harr (.one step_end)) hs, hfn, hl⟩
 | ret =>
  obtain ⟨todo, hs₀⟩ := harr
  obtain ⟨e', w'', fr', hR, hs, hfn, hl⟩ := leavesQ_steps a'.defers .returning w' { b.at a' todo with mode := .returning } cs rfl rfl rfl hf rfl hq
  exact ⟨e', w'', fr', hR, Comes.of_steps hs₀ hs, hfn, hl⟩
 | panic chain =>
  obtain ⟨todo, hs₀⟩ := harr
  obtain ⟨e', w'', fr', hR, hs, hfn, hl⟩ := leavesQ_steps a'.defers (.panicking chain) w' { b.at a' todo with mode := .panicking chain } cs rfl rfl rfl hf rfl hq
  exact ⟨e', w'', fr', hR, Comes.of_steps hs₀ hs, hfn, hl⟩
 | exit id => exact hq.elim
 | goto l => exact hq.elim
 | outgrown => exact ⟨.outgrown, w', b, hq, harr.resolve_left (by simp [b]), rfl, trivial⟩

theorem callM {E : Env} {P : Program} (hE : E.ok P) {f : Nat} {fn : Func} {c : Code} {args : List SV} {h : SHeap} {K : CE → SHeap → Prop} (hf : P.funcs[f]? = some fn) (hb : fn.body = some c)
  (hx : X E P none h.length c ⟨initT args fn.ntmps, h, []⟩ [] (retKM E fn.results.toList fun v h1 => ∃ ce' h2, K ce' h2 ∧ EntC h.length (.ret v) h1 ce' h2)) : CallP P f args h K := by
 refine CallP.ent ?_
 intro η φ w0 Ef w vs hs hd
 let KM := retKM E fn.results.toList fun v h1 => ∃ ce' h2, K ce' h2 ∧ EntC h.length (.ret v) h1 ce' h2
 have hc := X_ok hE c _ _ _ (fun se s => ∃ ob, KM se s ob) (retKM_good E fn.results.toList _) (fun se s ob hk => ⟨ob, hk⟩) hx η η φ w0 Ef w { tmps := vs.toArray ++ Array.replicate (fn.ntmps - vs.toArray.size) undef, defers := [] } (Pin.refl _ _) (Nat.le_refl _) hs (initT_ok hd _) rfl
 refine calls_of_wpQ hf hb (wp_mono (wpIn_wide.1 hc) ?_)
 rintro e a w' ⟨se, s, η', φ', ⟨ob, k⟩, p1, p2, pe, p3, p4, p5⟩
 have main : endM E fn.results.toList (fun v h1 => ∃ ce' h2, K ce' h2 ∧ EntC h.length (.ret v) h1 ce' h2) s ob →
   LeavesQ P fn a.tmps (fun e w' => ∃ ce h1 η1 φ1, (∃ ce' h2, K ce' h2 ∧ EntC h.length ce h1 ce' h2) ∧ h.length ≤ h1.length ∧ Pin h.length η η1 ∧ cRel η1 ce e ∧ Sat η1 φ1 h1 w0 Ef w') a.defers .returning w' := by
  intro hk
  unfold endM at hk
  split at hk
  ·rename_i m hD
   split at hk
   ·rename_i I hm
    rw [fcP_eq, fcL_eq] at hk
    obtain ⟨_, hI, hk⟩ := hk
    rw [hD] at p5
    obtain ⟨ad, ds', had, hds, hds'⟩ := drel_mark p5
    have hnil : ds' = [] := by simpa [DRel] using hds'.symm
    subst hnil
    obtain ⟨hw, hs'⟩ := p3.take hm hI had
    rw [hds]
    refine .inr ⟨ad.1, _, _, _, rfl, rfl, by simp, run_takeDeferred hw, ?_⟩
    split at hk
    ·rename_i us ob' hres
     rw [fcP_eq, fcV_eq] at hk
     obtain ⟨u, h1, h2⟩ := run_results (P := P) (s := ⟨s.T, s.H.set m (some .dead), []⟩) hE hs' p4 hres hk.1
     exact ⟨u, h2, .ret (resOne us), _, η', φ', hk.2, by simpa using p2, p1, ⟨u, h1, rfl⟩, hs'⟩
    ·exact hk.elim
   ·exact hk.elim
  ·exact hk.elim
 show bodyPostQ P fn _ e a w'
 have k : retKM E fn.results.toList (fun v h1 => ∃ ce' h2, K ce' h2 ∧ EntC h.length (.ret v) h1 ce' h2) se s ob := k
 unfold retKM at k
 split at k
 ·have pe : e = .normal := pe
  subst pe
  exact main k
 ·have pe : e = .ret := pe
  subst pe
  exact main k
 ·exact k.elim

theorem endD_leaves {E : Env} {P : Program} (hE : E.ok P) {g q : Nat} {gf : Func} (hg : P.funcs[g]? = some gf) (hr : IsRec gf q) (hq : E.fn q = true) (hgE : E.fn g = true) {fn : Func} {K : SV → SHeap → Prop} {x : SV} {xv : Value} {u : FrameMode} {s : St} {ob : List Prop}
  (hk : endD E P fn.results.toList g q K x s ob) {KC : CE → SHeap → Prop} (hKC : ∀ v h1, K v h1 → KC (.ret v) h1) {n : Nat} {η η' : Nam} {φ' : Feet} {w0 w' : World} {Ef : Nat → Prop} {a : Act} (hxv : den η' x = some xv) (hu : (u = .returning ∧ xv = .nilIface) ∨ u = .panicking [{ v := xv, recovered := false }])
  (p1 : Pin n η η') (p2 : n ≤ s.H.length) (p3 : Sat η' φ' s.H w0 Ef w') (p4 : TRel η' s.T a.tmps) (p5 : DRel η' s.D a.defers) :
  Leaves P fn a.tmps (fun e w' => ∃ ce h1 η1 φ1, KC ce h1 ∧ n ≤ h1.length ∧ Pin n η η1 ∧ cRel η1 ce e ∧ Sat η1 φ1 h1 w0 Ef w') a.defers u w' := by
 unfold endD at hk
 split at hk
 ·rename_i g' p hD
  split at hk
  ·rename_i hgg
   have hgg : g' = g := by simpa using hgg
   subst hgg
   rw [fcP_eq] at hk
   obtain ⟨_, hcall⟩ := hk
   have hD' := p5
   rw [hD] at hD'
   unfold DRel at hD'
   simp only [List.mapM_cons, List.mapM_nil, denD, denL, Option.bind_eq_bind, Option.bind_some, Option.bind_eq_some_iff, Option.map_eq_some_iff, Option.pure_def, Option.some.injEq] at hD'
   obtain ⟨d, ⟨capv, ⟨pv, hpv, _, rfl, rfl⟩, rfl⟩, hds⟩ := hD'
   rw [← hds]
   refine leaves_rec hE hg hr hq hgE (x := xv) hu ?_
   have hargs : denL η' [x, p] = some [xv, pv] := by simp [denL, hxv, hpv]
   refine (hcall η' φ' w0 Ef w' [xv, pv] p3 hargs).mono ?_
   rintro e w2 ⟨ce, h1, η1, φ1, hk1, hl, hp, hce, hs1⟩
   cases ce with
   | panic v => exact hk1.elim
   | ret v =>
    obtain ⟨u1, _, rfl⟩ := hce
    simp only at hk1
    split at hk1
    ·rename_i us ob' hres
     simp only [fcP_eq, fcV_eq, fcL_eq] at hk1
     obtain ⟨ho, hk1⟩ := hk1
     have hle := Nam.le_of_pin p3 hp
     obtain ⟨u2, hu2, hrun⟩ := run_results (P := P) (s := ⟨s.T, h1, []⟩) hE hs1 (p4.mono hle) hres ho
     exact ⟨u2, hrun, .ret (resOne us), h1, η1, φ1, hKC _ _ hk1, Nat.le_trans p2 hl, p1.trans hp p2, ⟨u2, hu2, rfl⟩, hs1⟩
    ·exact hk1.elim
  ·exact hk.elim
 ·exact hk.elim

def endDM (E : Env) (P : Program) (rs : List ResultVar) (g q : Nat) (K : SV → SHeap → Prop) (x : SV) (s : St) (ob : List Prop) : Prop :=
 match s.D with
 | .yld m :: D => match s.H[m]? with
  | some (some (.obj I)) => fcP ob fun ob => AllP ob ∧ (∀ o, I o → o = .deferred (some [])) ∧ fcL (s.H.set m (some .dead)) fun H => endD E P rs g q K x ⟨s.T, H, D⟩ []
  | _ => False
 | _ => endD E P rs g q K x s ob
def retKDM (E : Env) (P : Program) (rs : List ResultVar) (g q : Nat) (K : SV → SHeap → Prop) : KS := fun se s ob => match se with
 | .normal => endDM E P rs g q K .inil s ob
 | .ret => endDM E P rs g q K .inil s ob
 | .panic (.iface t v) => endDM E P rs g q K (.iface t v) s ob
 | _ => False
theorem endDM_owed {E : Env} {P : Program} {rs : List ResultVar} {g q : Nat} {K : SV → SHeap → Prop} {x : SV} {s : St} {ob : List Prop} (h : endDM E P rs g q K x s ob) : AllP ob := by
 unfold endDM at h
 split at h
 ·split at h
  ·rw [fcP_eq] at h; exact h.1
  ·exact h.elim
 ·exact endD_owed h
theorem retKDM_good (E : Env) (P : Program) (rs : List ResultVar) (g q : Nat) (K : SV → SHeap → Prop) : Good (retKDM E P rs g q K) := by
 intro se s ob h
 unfold retKDM at h
 split at h
 ·exact endDM_owed h
 ·exact endDM_owed h
 ·exact endDM_owed h
 ·exact h.elim

theorem callDM {E : Env} {P : Program} (hE : E.ok P) {f : Nat} {fn : Func} {c : Code} {args : List SV} {h : SHeap} {K : CE → SHeap → Prop} (hf : P.funcs[f]? = some fn) (hb : fn.body = some c)
  {g q : Nat} {gf : Func} (hg : P.funcs[g]? = some gf) (hr : IsRec gf q) (hq : E.fn q = true) (hgE : E.fn g = true)
  (hx : X E P none h.length c ⟨initT args fn.ntmps, h, []⟩ [] (retKDM E P fn.results.toList g q fun v h1 => ∃ ce' h2, K ce' h2 ∧ EntC h.length (.ret v) h1 ce' h2)) : CallP P f args h K := by
 refine CallP.ent ?_
 intro η φ w0 Ef w vs hs hd
 have hc := X_ok hE c _ _ _ (fun se s => ∃ ob, retKDM E P fn.results.toList g q (fun v h1 => ∃ ce' h2, K ce' h2 ∧ EntC h.length (.ret v) h1 ce' h2) se s ob) (retKDM_good E P fn.results.toList g q _) (fun se s ob hk => ⟨ob, hk⟩) hx η η φ w0 Ef w { tmps := vs.toArray ++ Array.replicate (fn.ntmps - vs.toArray.size) undef, defers := [] } (Pin.refl _ _) (Nat.le_refl _) hs (initT_ok hd _) rfl
 refine calls_of_wpQ hf hb (wp_mono (wpIn_wide.1 hc) ?_)
 rintro e a w' ⟨se, s, η', φ', ⟨ob, k⟩, p1, p2, pe, p3, p4, p5⟩
 have main : ∀ (x : SV) (xv : Value) (u : FrameMode), endDM E P fn.results.toList g q (fun v h1 => ∃ ce' h2, K ce' h2 ∧ EntC h.length (.ret v) h1 ce' h2) x s ob → den η' x = some xv →
   ((u = .returning ∧ xv = .nilIface) ∨ u = .panicking [{ v := xv, recovered := false }]) →
   LeavesQ P fn a.tmps (fun e w' => ∃ ce h1 η1 φ1, (∃ ce' h2, K ce' h2 ∧ EntC h.length ce h1 ce' h2) ∧ h.length ≤ h1.length ∧ Pin h.length η η1 ∧ cRel η1 ce e ∧ Sat η1 φ1 h1 w0 Ef w') a.defers u w' := by
  intro x xv u hk hxv hu
  unfold endDM at hk
  split at hk
  ·rename_i m D hD
   split at hk
   ·rename_i I hm
    rw [fcP_eq, fcL_eq] at hk
    obtain ⟨_, hI, hk⟩ := hk
    rw [hD] at p5
    obtain ⟨ad, ds', had, hds, hds'⟩ := drel_mark p5
    obtain ⟨hw, hs'⟩ := p3.take hm hI had
    rw [hds]
    refine .inr ⟨ad.1, _, _, _, rfl, rfl, by rcases hu with ⟨rfl, _⟩ | rfl <;> simp, run_takeDeferred hw, ?_⟩
    exact (endD_leaves hE hg hr hq hgE (a := { a with defers := ds' }) hk (KC := fun ce h1 => ∃ ce' h2, K ce' h2 ∧ EntC h.length ce h1 ce' h2) (fun _ _ hx => hx) hxv hu p1 (by simpa using p2) hs' p4 hds')
   ·exact hk.elim
  ·exact .inl (endD_leaves hE hg hr hq hgE hk (KC := fun ce h1 => ∃ ce' h2, K ce' h2 ∧ EntC h.length ce h1 ce' h2) (fun _ _ hx => hx) hxv hu p1 p2 p3 p4 p5)
 show bodyPostQ P fn _ e a w'
 have k : retKDM E P fn.results.toList g q (fun v h1 => ∃ ce' h2, K ce' h2 ∧ EntC h.length (.ret v) h1 ce' h2) se s ob := k
 cases se with
 | normal =>
  have pe : e = .normal := pe
  subst pe
  exact main .inil .nilIface .returning k rfl (.inl ⟨rfl, rfl⟩)
 | ret =>
  have pe : e = .ret := pe
  subst pe
  exact main .inil .nilIface .returning k rfl (.inl ⟨rfl, rfl⟩)
 | panic sv =>
  cases sv with
  | iface t v =>
   obtain ⟨u, hu, rfl⟩ := pe
   exact main (.iface t v) u (.panicking [{ v := u, recovered := false }]) k hu (.inr rfl)
  | _ => exact k.elim
 | _ => exact k.elim
end Go.Sy
/-
 Sy24: what is said before a call, and behind it, may be said otherwise; a cell with a slice and its array as one block. No program is named.
-/
namespace Go.Sy

theorem Ent.trans {n : Nat} {s t u : St} (h1 : Ent n s t) (h2 : Ent n t u) : Ent n s u := by
 intro η φ w0 Ef w a hn hs hT hD
 obtain ⟨η', φ', p1, p2, p3, p4, p5⟩ := h1 η φ w0 Ef w a hn hs hT hD
 obtain ⟨η2, φ2, q1, q2, q3, q4, q5⟩ := h2 η' φ' w0 Ef w a p2 p3 p4 p5
 exact ⟨η2, φ2, fun i hi => (q1 i hi).trans (p1 i hi), q2, q3, q4, q5⟩

theorem trel_args {η : Nam} : ∀ {args : List SV} {vs : List Value}, denL η args = some vs → TRel η (args.map fun v => some (none, v)) vs.toArray := by
 intro args vs hd
 refine ⟨by simp [denL_length hd], fun k g sv hk => ?_⟩
 simp only [List.getElem?_map, Option.map_eq_some_iff, Option.some.injEq, Prod.mk.injEq] at hk
 obtain ⟨x, hx, rfl, rfl⟩ := hk
 obtain ⟨v, h1, h2⟩ := denL_get hd hx
 exact ⟨fun _ => ⟨v, h1, by simpa using h2⟩, fun hf => by cases hf⟩
theorem args_trel {η : Nam} : ∀ {args : List SV} {vs : List Value}, TRel η (args.map fun v => some (none, v)) vs.toArray → denL η args = some vs
 | [], vs, h => by
  have := h.1
  simp at this
  subst this; rfl
 | x :: xs, vs, h => by
  have hl := h.1
  cases vs with
  | nil => simp at hl
  | cons v vs =>
   obtain ⟨u, h1, h2⟩ := (h.2 0 none x (by simp)).1 rfl
   simp at h2
   subst h2
   refine denL_cons.2 ⟨_, _, h1, args_trel ⟨by simpa using hl, fun k g sv hk => ?_⟩, rfl⟩
   have := h.2 (k + 1) g sv (by simpa using hk)
   simpa using this

def argT (args : List SV) : Tm := args.map fun v => some (none, v)

theorem CallP.pre {P : Program} {f : FuncId} {args args' : List SV} {h h' : SHeap} {K : CE → SHeap → Prop} (he : Ent h.length ⟨argT args, h, []⟩ ⟨argT args', h', []⟩) (hc : CallP P f args' h' K) : CallP P f args h K := by
 intro η φ w0 Ef w vs hs hd
 obtain ⟨η', φ', p1, p2, p3, p4, _⟩ := he η φ w0 Ef w { tmps := vs.toArray, defers := [] } (Nat.le_refl _) hs (trel_args hd) rfl
 refine (hc η' φ' w0 Ef w vs p3 (args_trel p4)).mono ?_
 rintro e w' ⟨ce, h1, η1, φ1, k, q1, q2, q3⟩
 exact ⟨ce, h1, η1, φ1, k, Nat.le_trans p2 q1, fun i hi => (q2 i (Nat.lt_of_lt_of_le hi p2)).trans (p1 i hi), q3⟩
theorem YieldP.pre {P : Program} {i : Nat} {args args' : List SV} {h h' : SHeap} {K : CE → SHeap → Prop} (he : Ent h.length ⟨argT args, h, []⟩ ⟨argT args', h', []⟩) (hi : i < h.length) (hc : YieldP P i args' h' K) : YieldP P i args h K := by
 intro η φ w0 Ef w vs hs hd
 obtain ⟨η', φ', p1, p2, p3, p4, _⟩ := he η φ w0 Ef w { tmps := vs.toArray, defers := [] } (Nat.le_refl _) hs (trel_args hd) rfl
 obtain ⟨a, f, tmps, assign, body, e1, e2, e3⟩ := hc η' φ' w0 Ef w vs p3 (args_trel p4)
 refine ⟨a, f, tmps, assign, body, by rw [← p1 i hi]; exact e1, e2, e3.mono ?_⟩
 rintro e w' ⟨ce, h1, η1, φ1, k, q1, q2, q3⟩
 exact ⟨ce, h1, η1, φ1, k, Nat.le_trans p2 q1, fun i hi => (q2 i (Nat.lt_of_lt_of_le hi p2)).trans (p1 i hi), q3⟩

end Go.Sy
/-
 Sy26: values and blocks said in another way that denotes the same. No program is named.
-/
namespace Go.Sy

def fcC (ce : CE) (k : CE → Prop) : Prop :=
 match ce with
 | .ret v => fcW v fun v => k (.ret v)
 | .panic v => fcW v fun v => k (.panic v)
theorem fcC_eq (ce : CE) (k : CE → Prop) : fcC ce k = k ce := by
 cases ce <;> simp [fcC, fcW_eq]
theorem CallP.frameH {P : Program} {f : FuncId} {a0 args : List SV} {h0 h : SHeap} {K0 K : CE → SHeap → Prop} (hc : CallP P f a0 h0 K0) (σ : List Nat)
  (hf : Fits (sig σ h.length) h σ h0) (ha : renL (sig σ h.length) a0 = args)
  (hk : ∀ ce h', K0 ce h' → ownB h0 h' = true ∧ fcH (updH σ h h0 h') fun H => fcC (renC (sig σ h.length) ce) fun ce => K ce H)
  (hap : apartB σ h0 = true := by rfl) : CallP P f args h K :=
 CallP.frame hc σ hf (apartB_ok hap) ha fun ce h' hK => by
  obtain ⟨h1, h2⟩ := hk ce h' hK
  rw [fcH_eq, fcC_eq] at h2
  exact ⟨ownB_ok h1, h2⟩
theorem CallP.argsD {P : Program} {f : FuncId} {args args' : List SV} {h : SHeap} {K : CE → SHeap → Prop} (hd : ∀ η, denL η args = denL η args') (hc : CallP P f args' h K) : CallP P f args h K :=
 fun η φ w0 Ef w vs hs hv => hc η φ w0 Ef w vs hs (by rw [← hd]; exact hv)
theorem YieldP.argsD {P : Program} {i : Nat} {args args' : List SV} {h : SHeap} {K : CE → SHeap → Prop} (hd : ∀ η, denL η args = denL η args') (hc : YieldP P i args' h K) : YieldP P i args h K :=
 fun η φ w0 Ef w vs hs hv => hc η φ w0 Ef w vs hs (by rw [← hd]; exact hv)
theorem entV {n : Nat} {v v' : SV} {H : SHeap} {D : List SV} (h : ∀ η, den η v = den η v') : Ent n ⟨[some (none, v)], H, D⟩ ⟨[some (none, v')], H, D⟩ := by
 intro η φ w0 Ef w a hn hs hT hD
 refine ⟨η, φ, fun _ _ => rfl, hn, hs, ⟨hT.1, fun k g sv hk => ?_⟩, hD⟩
 cases k with
 | zero =>
  simp only [List.getElem?_cons_zero, Option.some.injEq, Prod.mk.injEq] at hk
  obtain ⟨rfl, rfl⟩ := hk
  refine ⟨fun _ => ?_, fun hf => by cases hf⟩
  obtain ⟨u, h1, h2⟩ := (hT.2 0 none v rfl).1 rfl
  exact ⟨u, by rw [← h]; exact h1, h2⟩
 | succ k => simp at hk
theorem entCells {n : Nat} {T : Tm} {H : SHeap} {D : List SV} {i : Nat} {cs cs' : List SV} (hi : H[i]? = some (some (.cells cs))) (h : ∀ η, denL η cs = denL η cs') : Ent n ⟨T, H, D⟩ ⟨T, H.set i (some (.cells cs')), D⟩ := by
 intro η φ w0 Ef w a hn hs hT hD
 refine ⟨η, φ, fun _ _ => rfl, by simpa using hn, hs.less hi (fun _ _ hb => hb) (fun _ => rfl) (fun ad hh => ?_), hT, hD⟩
 obtain ⟨h0, Ty, vs, hd, hw⟩ := hh
 exact ⟨h0, Ty, vs, by rw [← h]; exact hd, hw⟩
theorem codeP_ret {P : Program} {r : Option Nat} {n : Nat} {s : St} {K : SE → St → Prop} (h : K .ret s) : CodeP P r n .ret s K :=
 fun _ _ _ _ _ _ _ h1 h2 h3 h4 h5 => wpIn_ret (Post.ex h rfl ⟨h1, h2, h3, h4, h5⟩)
theorem CodeP.pre {P : Program} {r : Option Nat} {n : Nat} {c : Code} {s t : St} {K : SE → St → Prop} (he : Ent n s t) (hc : CodeP P r n c t K) : CodeP P r n c s K := by
 intro η0 η φ w0 Ef w a h1 h2 h3 h4 h5
 obtain ⟨η', φ', p1, p2, p3, p4, p5⟩ := he η φ w0 Ef w a h2 h3 h4 h5
 exact hc η0 η' φ' w0 Ef w a (fun i hi => (p1 i hi).trans (h1 i hi)) p2 p3 p4 p5
theorem cutP {P : Program} {r : Option Nat} {n : Nat} {c : Code} {s : St} {K : SE → St → Prop} (keep : List Nat) (vars : List (Nat × SV)) (heap : SHeap → SHeap) (he : Ent n s ⟨mkT keep vars 0 s.T, heap s.H, s.D⟩)
  (hc : fcSt s fun s => fcSt ⟨mkT keep vars 0 s.T, heap s.H, s.D⟩ fun t => CodeP P r n c t K) : CodeP P r n c s K := by
 rw [fcSt_eq, fcSt_eq] at hc
 exact CodeP.pre he hc
theorem entCut {n : Nat} {T : Tm} {H : SHeap} {D : List SV} {i sz m m' cap : Nat} {get get' : Nat → List SV} (hi : H[i]? = some (some (.arr sz m cap get))) (hm : m' ≤ m) (hg : ∀ k, k < m' → get k = get' k) : Ent n ⟨T, H, D⟩ ⟨T, H.set i (some (.arr sz m' cap get')), D⟩ := by
 intro η φ w0 Ef w a hn hs hT hD
 refine ⟨η, φ, fun _ _ => rfl, by simpa using hn, hs.less hi (fun _ _ hb => hb) (fun _ => rfl) (fun ad hh => ?_), hT, hD⟩
 obtain ⟨h0, Ty, c, h1, h2, h3, h4⟩ := hh
 exact ⟨h0, Ty, c, h1, h2, by omega, fun k hk => by rw [← hg k hk]; exact h4 k (by omega)⟩
end Go.Sy
/-
 Code that is walked up to some place, and said anew there.
-/
namespace Go.Sy
open Go
set_option maxRecDepth 100000

def XK (E : Env) (P : Program) (r : Option Nat) (n : Nat) : Nat → Code → St → List Prop → KS → Prop
 | 0, c, s, ob, K => fcP ob fun ob => AllP ob ∧ CodeP P r n c s fun se s => K se s []
 | k + 1, .seq a b, s, ob, K => X E P r n a s ob (seqK (fun s ob => XK E P r n k b s ob K) K)
 | _ + 1, c, s, ob, K => X E P r n c s ob K
theorem XK_owed {E : Env} {P : Program} {r : Option Nat} {n : Nat} : ∀ (k : Nat) (c : Code) (s : St) (ob : List Prop) (K : KS), Good K → XK E P r n k c s ob K → AllP ob
 | 0, c, s, ob, K, _, h => by
  simp only [XK, fcP_eq] at h
  exact h.1
 | k + 1, c, s, ob, K, hK, h => by
  cases c with
  | seq a b =>
   refine X_owed a s ob _ (fun se s ob hk => ?_) h
   cases se with
   | normal => exact XK_owed k b s ob K hK hk
   | _ => exact hK _ _ _ hk
  | _ => exact X_owed _ s ob K hK h
theorem XK_ok {E : Env} {P : Program} (hE : E.ok P) {r : Option Nat} {n : Nat} : ∀ (k : Nat) (c : Code) (s : St) (ob : List Prop) (K : KS) (K0 : SE → St → Prop), Good K → (∀ se s ob, K se s ob → K0 se s) → XK E P r n k c s ob K → CodeP P r n c s K0
 | 0, c, s, ob, K, K0, hK, hKK, h => by
  simp only [XK, fcP_eq] at h
  exact fun η0 η φ w0 Ef w a h1 h2 h3 h4 h5 => wpIn_mono (h.2 η0 η φ w0 Ef w a h1 h2 h3 h4 h5) fun e a w ⟨se, s, η', φ', k, rest⟩ => ⟨se, s, η', φ', hKK _ _ _ k, rest⟩
 | k + 1, c, s, ob, K, K0, hK, hKK, h => by
  cases c with
  | seq a b =>
   have hb : ∀ s ob, XK E P r n k b s ob K → CodeP P r n b s K0 := fun s ob hk => XK_ok hE k b s ob K K0 hK hKK hk
   have ha := X_ok hE a s ob _ (fun se s => match se with | .normal => CodeP P r n b s K0 | se => K0 se s) (fun se s ob hk => by
    cases se with
    | normal => exact XK_owed k b s ob K hK hk
    | _ => exact hK _ _ _ hk) (fun se s ob hk => by
    cases se with
    | normal => exact hb _ _ hk
    | _ => exact hKK _ _ _ hk) h
   intro η0 η φ w0 Ef w a' h1 h2 h3 h4 h5
   refine wpIn_seq (wpIn_mono (ha η0 η φ w0 Ef w a' h1 h2 h3 h4 h5) ?_)
   rintro e a w ⟨se, s, η', φ', k, p1, p2, pe, p3, p4, p5⟩
   cases se with
   | normal =>
    have pe : e = .normal := pe
    subst pe
    exact k η0 η' φ' w0 Ef w a p1 p2 p3 p4 p5
   | exit i =>
    have pe : e = .exit i := pe
    subst pe
    exact ⟨.exit i, s, η', φ', k, p1, p2, rfl, p3, p4, p5⟩
   | goto l =>
    have pe : e = .goto l := pe
    subst pe
    exact ⟨.goto l, s, η', φ', k, p1, p2, rfl, p3, p4, p5⟩
   | ret =>
    have pe : e = .ret := pe
    subst pe
    exact ⟨.ret, s, η', φ', k, p1, p2, rfl, p3, p4, p5⟩
   | panic v =>
    obtain ⟨u, hu, rfl⟩ := pe
    exact ⟨.panic v, s, η', φ', k, p1, p2, ⟨u, hu, rfl⟩, p3, p4, p5⟩
  | _ => exact X_ok hE _ s ob K K0 hK hKK h
theorem codeP_XK {E : Env} {P : Program} (hE : E.ok P) (k : Nat) {r : Option Nat} {n : Nat} {c : Code} {s : St} {K : SE → St → Prop} (h : fcSt s fun s => XK E P r n k c s [] fun se s ob => fcP ob fun ob => AllP ob ∧ K se s) : CodeP P r n c s K := by
 rw [fcSt_eq] at h
 exact XK_ok hE k c s [] _ K (fun se s ob hk => by rw [fcP_eq] at hk; exact hk.1) (fun se s ob hk => by rw [fcP_eq] at hk; exact hk.2) h
theorem callP_enterK {E : Env} {P : Program} (hE : E.ok P) (k : Nat) {f : Nat} {fn : Func} {c : Code} {args : List SV} {h : SHeap} {K : CE → SHeap → Prop} (hf : P.funcs[f]? = some fn) (hb : fn.body = some c)
  (hx : XK E P none h.length k c ⟨initT args fn.ntmps, h, []⟩ [] (retKS E fn.results.toList K)) : CallP P f args h K := by
 intro η φ w0 Ef w vs hs hd
 have hc := XK_ok hE k c _ _ _ (fun se s => ∃ ob, retKS E fn.results.toList K se s ob) (retKS_good E fn.results.toList K) (fun se s ob hk => ⟨ob, hk⟩) hx η η φ w0 Ef w { tmps := vs.toArray ++ Array.replicate (fn.ntmps - vs.toArray.size) undef, defers := [] } (Pin.refl _ _) (Nat.le_refl _) hs (initT_ok hd fn.ntmps) rfl
 refine calls_of_wp hf hb (wp_mono (wpIn_wide.1 hc) ?_)
 rintro e a w' ⟨se, s, η', φ', ⟨ob, k⟩, p1, p2, pe, p3, p4, p5⟩
 unfold retKS at k
 split at k
 ·rename_i hD
  split at k
  ·rename_i us ob' hr
   rw [fcP_eq, fcV_eq] at k
   obtain ⟨ko, k⟩ := k
   obtain ⟨u, h1, h2⟩ := run_results (P := P) hE p3 p4 hr (AllP_iff.2 fun p hp => AllP_iff.1 ko p (List.mem_append_left _ hp))
   have pe : e = .normal := pe
   subst pe
   rw [hD] at p5
   exact ⟨by simpa [DRel] using p5.symm, u, h2, _, _, η', φ', k, p2, p1, ⟨u, h1, rfl⟩, p3⟩
  ·exact k.elim
 ·rename_i hD
  split at k
  ·rename_i us ob' hr
   rw [fcP_eq, fcV_eq] at k
   obtain ⟨ko, k⟩ := k
   obtain ⟨u, h1, h2⟩ := run_results (P := P) hE p3 p4 hr (AllP_iff.2 fun p hp => AllP_iff.1 ko p (List.mem_append_left _ hp))
   have pe : e = .ret := pe
   subst pe
   rw [hD] at p5
   exact ⟨by simpa [DRel] using p5.symm, u, h2, _, _, η', φ', k, p2, p1, ⟨u, h1, rfl⟩, p3⟩
  ·exact k.elim
 ·rename_i v hD
  rw [fcP_eq] at k
  obtain ⟨u, hu, rfl⟩ := pe
  rw [hD] at p5
  exact ⟨by simpa [DRel] using p5.symm, _, _, η', φ', k.2, p2, p1, ⟨u, hu, rfl⟩, p3⟩
 ·exact k.elim
theorem callRK {E : Env} {P : Program} (hE : E.ok P) (k : Nat) {f : Nat} {fn : Func} {c : Code} {args : List SV} {h h2 : SHeap} {v' : SV} (hf : P.funcs[f]? = some fn) (hb : fn.body = some c)
  (hx : XK E P none h.length k c ⟨initT args fn.ntmps, h, []⟩ [] (retKS E fn.results.toList fun ce h1 => match ce with
   | .ret v => Ent h.length ⟨[some (none, v)], h1, []⟩ ⟨[some (none, v')], h2, []⟩
   | .panic _ => False)) : CallP P f args h (Ret v' h2) :=
 CallP.ent ((callP_enterK hE k hf hb hx).mono fun ce h1 hk => by
  cases ce with
  | ret v => exact ⟨.ret v', h2, ⟨rfl, rfl⟩, hk⟩
  | panic v => exact hk.elim)
theorem callKK {E : Env} {P : Program} (hE : E.ok P) (k : Nat) {f : Nat} {fn : Func} {c : Code} {args : List SV} {h : SHeap} {K : CE → SHeap → Prop} (hf : P.funcs[f]? = some fn) (hb : fn.body = some c)
  (hx : XK E P none h.length k c ⟨initT args fn.ntmps, h, []⟩ [] (retKS E fn.results.toList fun ce h1 => ∃ ce' h2, K ce' h2 ∧ EntC h.length ce h1 ce' h2)) : CallP P f args h K :=
 CallP.ent (callP_enterK hE k hf hb hx)
def dropSeq : Nat → Code → Code
 | 0, c => c
 | k + 1, .seq _ b => dropSeq k b
 | _ + 1, c => c
def sufC (f : Func) (k : Nat) : Code := match f.body with
 | some c => dropSeq k c
 | none => .skip
def KRet (E : Env) (f : Func) (n : Nat) (v' : SV) (h2 : SHeap) : SE → St → Prop := fun se s => retKS E f.results.toList (fun ce h1 => match ce with
 | .ret v => Ent n ⟨[some (none, v)], h1, []⟩ ⟨[some (none, v')], h2, []⟩
 | .panic _ => False) se s []
theorem CodeP.part {P : Program} {r : Option Nat} {n : Nat} {c : Code} {s t : St} {K : SE → St → Prop} (hc : CodeP P r n c t K) (he : Ent n s t) : CodeP P r n c s (fun se s => fcP [] fun ob => AllP ob ∧ K se s) :=
 CodeP.pre he (hc.mono fun se s h => by rw [fcP_eq]; exact ⟨trivial, h⟩)
end Go.Sy
/-
 Sy28: lists of lists of numbers: a pool of rows, how it is begun, how a row comes to it, how a row is read; blocks that are locked for a while. No program is named.
-/
namespace Go.Sy

theorem Sat.plus {η : Nam} {φ : Feet} {h : SHeap} {w0 w : World} {Ef : Nat → Prop} (s : Sat η φ h w0 Ef w) {o' : SObj} {a' : Nat × Nat} (F' : Nat → Prop)
    (hh : o'.holds (η.put h.length a') a' F' w) (hb : ∀ b, o'.foot a' F' b → b < w.heap.size)
    (ho : o'.rw = true → ∀ b, o'.foot a' F' b → Ef b ∨ w0.heap.size ≤ b)
    (h1 : o'.rw = true → ∀ j oj aj b, h[j]? = some (some oj) → η j = some aj → o'.foot a' F' b → ¬ oj.foot aj (φ j) b)
    (h2 : ∀ j oj aj b, h[j]? = some (some oj) → η j = some aj → oj.rw = true → oj.foot aj (φ j) b → ¬ o'.foot a' F' b) :
    η.le (η.put h.length a') ∧ Sat (η.put h.length a') (fun k => if k = h.length then F' else φ k) (h ++ [some o']) w0 Ef w := by
  have hnone : η h.length = none := s.free fun o => by rw [List.getElem?_eq_none (Nat.le_refl _)]; simp
  have hle := Nam.le_put (a := a') hnone
  have key : ∀ j oj, (h ++ [some o'])[j]? = some (some oj) → (j = h.length ∧ oj = o') ∨ (j ≠ h.length ∧ h[j]? = some (some oj)) := fun j oj hj => by
    rw [List.getElem?_append] at hj
    split at hj
    · rename_i hl; exact .inr ⟨by omega, hj⟩
    · rename_i hl
      rcases Nat.eq_or_lt_of_le (Nat.le_of_not_lt hl) with e | e
      · subst e; simp at hj; exact .inl ⟨rfl, hj.symm⟩
      · rw [List.getElem?_eq_none (by simp; omega)] at hj; cases hj
  refine ⟨hle, ?_⟩
  exact
    { size := s.size
      env := s.env
      keep := s.keep
      dom := fun j b hj => by
        by_cases hjn : j = h.length
        · subst hjn; exact ⟨o', by simp⟩
        · rw [Nam.put_other η _ hjn] at hj
          obtain ⟨o1, h1⟩ := s.dom j b hj
          have hl : j < h.length := by
            rcases Nat.lt_or_ge j h.length with h2 | h2
            · exact h2
            · rw [List.getElem?_eq_none h2] at h1; cases h1
          exact ⟨o1, by rw [List.getElem?_append_left hl]; exact h1⟩
      named := fun j oj hj => by
        rcases key j oj hj with ⟨rfl, _⟩ | ⟨_, h3⟩
        · exact ⟨a', Nam.put_same η _ _⟩
        · obtain ⟨b, hb⟩ := s.named j oj h3; exact ⟨b, hle j b hb⟩
      holds := fun j oj aj hj haj => by
        rcases key j oj hj with ⟨rfl, rfl⟩ | ⟨h4, h3⟩
        · rw [Nam.put_same] at haj; cases haj; simpa using hh
        · rw [Nam.put_other η _ h4] at haj; simp only [if_neg h4]; exact SObj.holds_mono hle (s.holds j oj aj h3 haj)
      bnd := fun j oj aj b hj haj hfb => by
        rcases key j oj hj with ⟨rfl, rfl⟩ | ⟨h4, h3⟩
        · rw [Nam.put_same] at haj; cases haj; simp only [if_true] at hfb; exact hb b hfb
        · rw [Nam.put_other η _ h4] at haj; simp only [if_neg h4] at hfb; exact s.bnd j oj aj b h3 haj hfb
      own := fun j oj aj b hj haj hr hfb => by
        rcases key j oj hj with ⟨rfl, rfl⟩ | ⟨h4, h3⟩
        · rw [Nam.put_same] at haj; cases haj; simp only [if_true] at hfb; exact ho hr b hfb
        · rw [Nam.put_other η _ h4] at haj; simp only [if_neg h4] at hfb; exact s.own j oj aj b h3 haj hr hfb
      sep := fun j k oj ok aj ak b hjk hj hk haj hak hr hfb hfk => by
        rcases key j oj hj with ⟨rfl, rfl⟩ | ⟨h4, h3⟩
        · rw [Nam.put_same] at haj; cases haj
          simp only [if_true] at hfb
          rcases key k ok hk with ⟨rfl, _⟩ | ⟨h5, h6⟩
          · exact hjk rfl
          · rw [Nam.put_other η _ h5] at hak
            simp only [if_neg h5] at hfk
            exact h1 hr k ok ak b h6 hak hfb hfk
        · rw [Nam.put_other η _ h4] at haj
          simp only [if_neg h4] at hfb
          rcases key k ok hk with ⟨rfl, rfl⟩ | ⟨h5, h6⟩
          · rw [Nam.put_same] at hak; cases hak
            simp only [if_true] at hfk
            exact h2 j oj aj b h3 haj hr hfb hfk
          · rw [Nam.put_other η _ h5] at hak
            simp only [if_neg h5] at hfk
            exact s.sep j k oj ok aj ak b hjk h3 h6 haj hak hr hfb hfk }
theorem pin_put {η : Nam} {h : SHeap} {n : Nat} (hn : n ≤ h.length) (a : Nat × Nat) : Pin n η (η.put h.length a) := fun i hi => Nam.put_other η a (by omega)

theorem entRow {n : Nat} {T T' : Tm} {H : SHeap} {D : List SV} {j np : Nat} {len : Nat → Nat} {get : Nat → Nat → Int} (hj : H[j]? = some (some (.pool false np len get))) (k : Nat) (hk : k < np) (hpos : 0 < len k)
  (hT' : ∀ (η : Nam) (b : Nat) (tm : Array Value), η H.length = some (b, 0) → (∀ l c, den η (.row j k l c) = some (.slice (some ⟨b, 0, none⟩) l c)) → TRel η T tm → TRel η T' tm) :
  Ent n ⟨T, H, D⟩ ⟨T', H ++ [some (.roa 1 (len k) fun m => [.int .i64 (get k m)])], D⟩ := by
 intro η φ w0 Ef w a hn hs hT hD
 obtain ⟨aj, haj⟩ := hs.named j _ hj
 rcases hs.holds j _ aj hj haj k hk with ⟨_, h0⟩ | ⟨b, Ty, c, h1, h3, h4⟩
 ·omega
 have ft : ∀ x, x = b → (SObj.pool false np len get).foot aj (φ j) x := fun x e => ⟨k, by rw [e]; exact h1⟩
 obtain ⟨hle, hs2⟩ := hs.plus (o' := .roa 1 (len k) fun m => [.int .i64 (get k m)]) (a' := (b, 0)) (fun _ => False)
  ⟨c, Ty, (0, 0), h3, fun m hm => ⟨[.int .i64 (get k m)], rfl, rfl, fun i v hi => by
   cases i with
   | zero => simp at hi; subst hi; simpa using h4 m hm
   | succ i => simp at hi⟩⟩
  (fun x hx => hs.bnd j _ aj x hj haj (ft x (Eq.symm hx))) (fun hr => by cases hr) (fun hr => by cases hr)
  (fun i oi ai x hi hai hr hfx hx => by
   by_cases hij : i = j
   ·subst hij; rw [hj] at hi; cases hi; cases hr
   ·exact hs.sep i j oi _ ai aj x hij hi hj hai haj hr hfx (ft x (Eq.symm hx)))
 refine ⟨_, _, pin_put hn _, by simp only [List.length_append, List.length_singleton]; exact Nat.le_trans hn (Nat.le_succ _), hs2, hT' _ b _ (Nam.put_same η _ _) (fun l c => ?_) (hT.mono hle), hD.mono hle⟩
 simp only [den, hle j aj haj, Option.bind_some, h1, rowV]
theorem CallP.row {P : Program} {f : FuncId} {args args' : List SV} {h : SHeap} {K : CE → SHeap → Prop} {j np : Nat} {len : Nat → Nat} {get : Nat → Nat → Int} (hj : h[j]? = some (some (.pool false np len get))) (k : Nat) (hk : k < np) (hpos : 0 < len k)
  (ha : ∀ (η : Nam) (b : Nat), η h.length = some (b, 0) → (∀ l c, den η (.row j k l c) = some (.slice (some ⟨b, 0, none⟩) l c)) → denL η args' = denL η args)
  (hc : CallP P f args' (h ++ [some (.roa 1 (len k) fun m => [.int .i64 (get k m)])]) K) : CallP P f args h K :=
 CallP.pre (entRow hj k hk hpos fun η b tm h1 h2 hT => by
  obtain ⟨tl⟩ := tm
  have := ha η b h1 h2
  rw [args_trel hT] at this
  exact trel_args this) hc
theorem CallP.entR {P : Program} {f : FuncId} {args : List SV} {h h1 h2 : SHeap} {v v' : SV} (hc : CallP P f args h (Ret v h1)) (he : Ent h.length ⟨[some (none, v)], h1, []⟩ ⟨[some (none, v')], h2, []⟩) : CallP P f args h (Ret v' h2) :=
 CallP.ent (hc.mono fun ce h1' hk => by
  obtain ⟨rfl, rfl⟩ := hk
  exact ⟨.ret v', h2, ⟨rfl, rfl⟩, he⟩)

structure PushRel (η : Nam) (i j L n : Nat) : Prop where
 at' : ∃ ai aj aL : Nat × Nat, η i = some ai ∧ ai.2 = 0 ∧ η j = some aj ∧ η L = some aL ∧ (∀ k, k < n → padr aL.2 k = padr aj.2 k) ∧ padr aL.2 n = ai.1 + 1
theorem PushRel.old {η : Nam} {i j L n : Nat} (h : PushRel η i j L n) {k : Nat} (hk : k < n) (l c : Nat) : den η (.row j k l c) = den η (.row L k l c) := by
 obtain ⟨ai, aj, aL, h1, h2, h3, h4, h5, h6⟩ := h.at'
 simp only [den, h3, h4, Option.bind_some, h5 k hk]
theorem PushRel.new {η : Nam} {i j L n : Nat} (h : PushRel η i j L n) (l c : Nat) : den η (.slice i 1 0 l c) = den η (.row L n l c) := by
 obtain ⟨ai, aj, aL, h1, h2, h3, h4, h5, h6⟩ := h.at'
 simp only [den, h1, h4, Option.bind_some, Option.map_some, h6, rowV, h2]
end Go.Sy
