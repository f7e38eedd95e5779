/-
  Parts: Sy12, Sy13, Sy14, Sy15.
-/
import Derived.Test.YtipbempkngfdbaaGreatDoorK7
import Derived.ControlIn
set_option linter.unusedVariables false
/-
  Sy12: a function is entered and left. No program is named.
-/
namespace Go.Sy

/-- What a function hands back, out of its temporaries and named results. -/
def resL (E : Env) (s : St) : List ResultVar → Option (List SV × List Prop)
  | [] => some ([], [])
  | .tmp t :: rs => match s.T[t]?, resL E s rs with
    | some (some (none, v)), some (vs, ob) => some (v :: vs, ob)
    | _, _ => none
  | .cell a t :: rs => match s.T[a]?, resL E s rs with
    | some (some (none, x)), some (vs, ob) => match evLoad E t x s.H with
      | some q => some (q.v :: vs, q.ob ++ ob)
      | none => none
    | _, _ => none
def resOne : List SV → SV
  | [v] => v
  | vs => .tup vs

def retKS (E : Env) (rs : List ResultVar) (K : CE → SHeap → Prop) : KS := fun se s ob =>
  match se, s.D with
  | .normal, [] => match resL E s rs with
    | some (vs, ob') => fcP (ob' ++ ob) fun ob => AllP ob ∧ fcV (resOne vs) fun v => K (.ret v) s.H
    | none => False
  | .ret, [] => match resL E s rs with
    | some (vs, ob') => fcP (ob' ++ ob) fun ob => AllP ob ∧ fcV (resOne vs) fun v => K (.ret v) s.H
    | none => False
  | .panic v, [] => fcP ob fun ob => AllP ob ∧ K (.panic v) s.H
  | _, _ => False

theorem retKS_good (E : Env) (rs : List ResultVar) (K : CE → SHeap → Prop) : Good (retKS E rs K) := by
  intro se s ob h
  unfold retKS at h
  split at h
  · split at h
    · rw [fcP_eq] at h; exact AllP_app h.1
    · exact h.elim
  · split at h
    · rw [fcP_eq] at h; exact AllP_app h.1
    · exact h.elim
  · rw [fcP_eq] at h; exact h.1
  · exact h.elim

theorem resL_ok {E : Env} {P : Program} (hE : E.ok P) {s : St} {η : Nam} {φ : Feet} {a : Act} {w0 w : World} {Ef : Nat → Prop} (hs : Sat η φ s.H w0 Ef w) (ht : TRel η s.T a.tmps) : ∀ {rs : List ResultVar} {vs : List SV} {ob : List Prop}, resL E s rs = some (vs, ob) → AllP ob →
    ∃ us, denL η vs = some us ∧ (rs.mapM (fun rv => match rv with
      | .tmp t => pure (a.tmps.getD t undef)
      | .cell x t => do loadVar t (← asAddr (a.tmps.getD x undef)) : ResultVar → Sem Value)).run P w = .ok us w
  | [], vs, ob, h, _ => by
    simp only [resL, Option.some.injEq, Prod.mk.injEq] at h
    obtain ⟨rfl, rfl⟩ := h
    exact ⟨[], rfl, by simp⟩
  | .tmp t :: rs, vs, ob, h, ho => by
    simp only [resL] at h
    split at h
    · rename_i v vs' ob' hT hrs
      simp only [Option.some.injEq, Prod.mk.injEq] at h
      obtain ⟨rfl, rfl⟩ := h
      obtain ⟨us, h1, h2⟩ := resL_ok hE hs ht hrs ho
      obtain ⟨u, h3, h4⟩ := (ht.2 t none v hT).1 rfl
      refine ⟨u :: us, denL_cons.2 ⟨u, us, h3, h1, rfl⟩, ?_⟩
      have e0 : a.tmps.getD t undef = u := by simp [Array.getD_eq_getD_getElem?, h4]
      simp only [List.mapM_cons, e0, Sem.run_bind, Sem.run_pure, Result.andThen_ok, h2]
    · cases h
  | .cell x t :: rs, vs, ob, h, ho => by
    simp only [resL] at h
    split at h
    · rename_i xv vs' ob' hT hrs
      split at h
      · rename_i q hq
        simp only [Option.some.injEq, Prod.mk.injEq] at h
        obtain ⟨rfl, rfl⟩ := h
        rw [AllP_iff] at ho
        obtain ⟨us, h1, h2⟩ := resL_ok hE hs ht hrs (AllP_iff.2 fun p hp => ho p (List.mem_append_right _ hp))
        obtain ⟨u, h3, h4⟩ := (ht.2 x none xv hT).1 rfl
        obtain ⟨_, v, h5, h6⟩ := evLoad_ok (P := P) hE hq (fun p hp => ho p (List.mem_append_left _ hp)) hs h3
        refine ⟨v :: us, denL_cons.2 ⟨v, us, h5, h1, rfl⟩, ?_⟩
        have e0 : a.tmps.getD x undef = u := by simp [Array.getD_eq_getD_getElem?, h4]
        have h7 : (do loadVar t (← asAddr u) : Sem Value).run P w = .ok v w := by
          cases u with
          | pointer p =>
            cases p with
            | none => simp [Instr.loadAt, Instr.sureAddr] at h6
            | some p => simpa [Instr.loadAt, Instr.sureAddr, asAddr] using h6
          | _ => simp [Instr.loadAt, Instr.sureAddr] at h6
        simp only [List.mapM_cons, e0]
        rw [Sem.run_bind, h7]
        simp only [Result.andThen_ok, Sem.run_bind, h2, Sem.run_pure]
      · cases h
    · cases h

theorem run_results {E : Env} {P : Program} (hE : E.ok P) {s : St} {η : Nam} {φ : Feet} {a : Act} {w0 w : World} {Ef : Nat → Prop} (hs : Sat η φ s.H w0 Ef w) (ht : TRel η s.T a.tmps) {fn : Func} {vs : List SV} {ob : List Prop} (h : resL E s fn.results.toList = some (vs, ob)) (ho : AllP ob) :
    ∃ u, den η (resOne vs) = some u ∧ (results fn a.tmps).run P w = .ok u w := by
  obtain ⟨us, h1, h2⟩ := resL_ok (P := P) hE hs ht h ho
  have h3 : (fn.results.mapM (fun rv => match rv with
      | .tmp t => pure (a.tmps.getD t undef)
      | .cell x t => do loadVar t (← asAddr (a.tmps.getD x undef)) : ResultVar → Sem Value)).run P w = .ok us.toArray w := by
    rw [Array.mapM_eq_mapM_toList, Sem.run_map, h2]; rfl
  have hl := denL_length h1
  have hrun : (results fn a.tmps).run P w = .ok (if h : us.toArray.size = 1 then us.toArray[0] else .tuple us.toArray) w := by
    unfold results
    rw [Sem.run_bind]
    have h3' := h3
    refine Eq.trans (congrArg (fun x => Result.andThen x _) h3') ?_
    simp only [Result.andThen_ok, Sem.run_pure]
  rw [hrun]
  match vs, us, h1, hl with
  | [v], [u], h1, _ =>
    obtain ⟨b, bs, h5, h6, h7⟩ := denL_cons.1 h1
    cases h7
    exact ⟨u, h5, by simp⟩
  | [], [], _, _ => exact ⟨.tuple #[], by simp [resOne, den, denL], by simp⟩
  | v :: v' :: vs, u :: u' :: us, h1, _ =>
    refine ⟨.tuple (u :: u' :: us).toArray, by simp only [resOne, den, h1, Option.map_some], ?_⟩
    rw [dif_neg (by simp)]

def initT (args : List SV) (ntmps : Nat) : Tm := args.map (fun v => some (none, v)) ++ List.replicate (ntmps - args.length) none

theorem initT_ok {η : Nam} {args : List SV} {vs : List Value} (hd : denL η args = some vs) (nt : Nat) : TRel η (initT args nt) (vs.toArray ++ Array.replicate (nt - vs.toArray.size) undef) := by
  have hl := denL_length hd
  refine ⟨by simp [initT, hl], fun k g sv hk => ?_⟩
  unfold initT at hk
  rw [List.getElem?_append] at hk
  split at hk
  · rename_i hlt
    rw [List.getElem?_map] at hk
    simp only [Option.map_eq_some_iff, Option.some.injEq, Prod.mk.injEq] at hk
    obtain ⟨v, hv, rfl, rfl⟩ := hk
    obtain ⟨u, h1, h2⟩ := denL_get hd hv
    simp at hlt
    refine ⟨fun _ => ⟨u, h1, ?_⟩, fun hf => by cases hf⟩
    rw [Array.getElem?_append, if_pos (by simp; omega)]
    simpa using h2
  · rw [List.getElem?_replicate] at hk
    split at hk <;> simp at hk

theorem callP_enter {E : Env} {P : Program} (hE : E.ok P) {f : Nat} {fn : Func} {c : Code} {args : List SV} {h : SHeap} {K : CE → SHeap → Prop} (hf : P.funcs[f]? = some fn) (hb : fn.body = some c)
    (hx : X E P none h.length c ⟨initT args fn.ntmps, h, []⟩ [] (retKS E fn.results.toList K)) : CallP P f args h K := by
  intro η φ w0 Ef w vs hs hd
  have hc := X_ok hE c _ _ _ (fun se s => ∃ ob, retKS E fn.results.toList K se s ob) (retKS_good E fn.results.toList K) (fun se s ob hk => ⟨ob, hk⟩) hx η η φ w0 Ef w { tmps := vs.toArray ++ Array.replicate (fn.ntmps - vs.toArray.size) undef, defers := [] } (Pin.refl _ _) (Nat.le_refl _) hs (initT_ok hd _) rfl
  refine calls_of_wp hf hb (wp_mono (wpIn_wide.1 hc) ?_)
  rintro e a w' ⟨se, s, η', φ', ⟨ob, k⟩, p1, p2, pe, p3, p4, p5⟩
  unfold retKS at k
  split at k
  · rename_i hD
    split at k
    · rename_i us ob' hr
      rw [fcP_eq, fcV_eq] at k
      obtain ⟨ko, k⟩ := k
      obtain ⟨u, h1, h2⟩ := run_results (P := P) hE p3 p4 hr (AllP_iff.2 fun p hp => AllP_iff.1 ko p (List.mem_append_left _ hp))
      have pe : e = .normal := pe
      subst pe
      rw [hD] at p5
      exact ⟨by simpa [DRel] using p5.symm, u, h2, _, _, η', φ', k, p2, p1, ⟨u, h1, rfl⟩, p3⟩
    · exact k.elim
  · rename_i hD
    split at k
    · rename_i us ob' hr
      rw [fcP_eq, fcV_eq] at k
      obtain ⟨ko, k⟩ := k
      obtain ⟨u, h1, h2⟩ := run_results (P := P) hE p3 p4 hr (AllP_iff.2 fun p hp => AllP_iff.1 ko p (List.mem_append_left _ hp))
      have pe : e = .ret := pe
      subst pe
      rw [hD] at p5
      exact ⟨by simpa [DRel] using p5.symm, u, h2, _, _, η', φ', k, p2, p1, ⟨u, h1, rfl⟩, p3⟩
    · exact k.elim
  · rename_i v hD
    rw [fcP_eq] at k
    obtain ⟨u, hu, rfl⟩ := pe
    rw [hD] at p5
    exact ⟨by simpa [DRel] using p5.symm, _, _, η', φ', k.2, p2, p1, ⟨u, hu, rfl⟩, p3⟩
  · exact k.elim
end Go.Sy
/-
  Sy13: a contract over a small heap holds in every heap that has its blocks. No program is named.
-/
namespace Go.Sy

/-- Blocks are renamed. -/
def renO (σ : Nat → Nat) : SObj → SObj
  | .dead => .dead
  | .cells cs => .cells (renL σ cs)
  | .arr sz n cap get => .arr sz n cap fun k => renL σ (get k)
  | .roc cs => .roc (renL σ cs)
  | .roa sz n get => .roa sz n fun k => renL σ (get k)
  | .glob g cs => .glob g (renL σ cs)
  | .obj I => .obj I
  | .ext R => .ext R
  | .memo n F has => .memo n F has
  | .loopr T ps a b st p => .loopr (renT σ T) ps a b st p
  | .vec sz n get => .vec sz n fun k => renL σ (get k)
  | .cmap m => .cmap m
  | .citer l c => .citer l c
  | .pool o n l g => .pool o n l g
def renC (σ : Nat → Nat) : CE → CE
  | .ret v => .ret (ren σ v)
  | .panic v => .panic (ren σ v)

theorem renO_rw (σ : Nat → Nat) (o : SObj) : (renO σ o).rw = o.rw := by cases o <;> rfl
theorem renO_foot (σ : Nat → Nat) (o : SObj) (a : Nat × Nat) (F : Nat → Prop) (b : Nat) : (renO σ o).foot a F b ↔ o.foot a F b := by cases o <;> rfl
theorem renO_holds {η η' : Nam} {σ : Nat → Nat} (hη : (fun i => η (σ i)) = η') (o : SObj) (a : Nat × Nat) (F : Nat → Prop) (w : World) : (renO σ o).holds η a F w ↔ o.holds η' a F w := by
  subst hη
  cases o <;> simp only [renO, SObj.holds, denL_ren, relT_ren]

/-- What is said of some temporaries follows. -/
def TLe (σ : Nat → Nat) : List (Option SV) → List (Option SV) → Prop
  | [], [] => True
  | _ :: xs, none :: ys => TLe σ xs ys
  | some v :: xs, some v' :: ys => v = ren σ v' ∧ TLe σ xs ys
  | _, _ => False
theorem TLe.get {F : Nat → Nat} : ∀ {S T : List (Option SV)}, TLe F S T → S.length = T.length ∧ ∀ (k : Nat) (v : SV), T[k]? = some (some v) → S[k]? = some (some (ren F v))
  | [], [], _ => ⟨rfl, fun k v h => by simp at h⟩
  | [], none :: _, h => h.elim
  | [], some _ :: _, h => h.elim
  | _ :: _, [], h => h.elim
  | none :: _, some _ :: _, h => h.elim
  | x :: xs, none :: ys, h => by
    have h : TLe F xs ys := by cases x <;> exact h
    obtain ⟨e, hg⟩ := TLe.get h
    refine ⟨by simp [e], fun k v hk => ?_⟩
    cases k with
    | zero => simp at hk
    | succ k => simpa using hg k v (by simpa using hk)
  | some v :: xs, some v' :: ys, h => by
    obtain ⟨rfl, h⟩ := h
    obtain ⟨e, hg⟩ := TLe.get h
    refine ⟨by simp [e], fun k v hk => ?_⟩
    cases k with
    | zero => simp at hk; subst hk; simp
    | succ k => simpa using hg k v (by simpa using hk)
theorem TLe.rel {η : Nam} {σ : Nat → Nat} {S T : List (Option SV)} (h : TLe σ S T) {tmps : Array Value} (hr : relT η S tmps) : relT (fun i => η (σ i)) T tmps := by
  obtain ⟨e, hg⟩ := h.get
  refine ⟨by rw [hr.1, e], fun k sv hk => ?_⟩
  obtain ⟨v, h1, h2⟩ := hr.2 k _ (hg k sv hk)
  exact ⟨v, by rwa [den_ren] at h1, h2⟩

/-- What a block is said to be in a contract follows from what it is. -/
def ObjLe (σ : Nat → Nat) : SObj → SObj → Prop
  | .cells cs, .cells cs0 => cs = renL σ cs0
  | .cells cs, .roc cs0 => cs = renL σ cs0
  | .roc cs, .roc cs0 => cs = renL σ cs0
  | .glob _ cs, .roc cs0 => cs = renL σ cs0
  | .glob g cs, .glob g0 cs0 => g = g0 ∧ cs = renL σ cs0
  | .arr sz n cap get, .arr sz0 n0 cap0 get0 => sz = sz0 ∧ n = n0 ∧ cap = cap0 ∧ ∀ k, k < n → get k = renL σ (get0 k)
  | .arr sz n _ get, .roa sz0 n0 get0 => sz = sz0 ∧ n = n0 ∧ ∀ k, k < n → get k = renL σ (get0 k)
  | .roa sz n get, .roa sz0 n0 get0 => sz = sz0 ∧ n = n0 ∧ ∀ k, k < n → get k = renL σ (get0 k)
  | .obj I, .obj I0 => ∀ o, I o → I0 o
  | .ext R, .ext R0 => R = R0
  | .memo n F has, .memo n0 F0 has0 => n = n0 ∧ F = F0 ∧ (has0 = [] ∨ has = has0)
  | .loopr T ps a b st p, .loopr T0 ps0 a0 b0 st0 p0 => TLe σ T T0 ∧ ps = ps0 ∧ a = a0 ∧ b = b0 ∧ st = st0 ∧ p = p0
  | .vec sz n get, .vec sz0 n0 get0 => sz = sz0 ∧ n = n0 ∧ ∀ k, k < n → get k = renL σ (get0 k)
  | .cmap m, .cmap m0 => m = m0
  | .citer l c, .citer l0 c0 => l = l0 ∧ c = c0
  | .pool o n l g, .pool o0 n0 l0 g0 => (o0 = false ∨ o = o0) ∧ n = n0 ∧ (∀ k, k < n → l k = l0 k) ∧ ∀ k, k < n → ∀ m, m < l k → g k m = g0 k m
  | _, .dead => True
  | _, _ => False
theorem ObjLe.rw {σ : Nat → Nat} {o o0 : SObj} (h : ObjLe σ o o0) (h0 : o0.rw = true) : o.rw = true := by
  cases o <;> cases o0 <;> simp_all [ObjLe, SObj.rw]
theorem ObjLe.foot {σ : Nat → Nat} {o o0 : SObj} (h : ObjLe σ o o0) (a : Nat × Nat) (F : Nat → Prop) (b : Nat) : o0.foot a F b → o.foot a F b := by
  cases o <;> cases o0 <;> first | exact h.elim | exact id | exact False.elim
theorem ObjLe.holds {η : Nam} {σ : Nat → Nat} {o o0 : SObj} (h : ObjLe σ o o0) {a : Nat × Nat} {F : Nat → Prop} {w : World} (hh : o.holds η a F w) : o0.holds (fun i => η (σ i)) a F w := by
  cases o <;> cases o0 <;> simp only [ObjLe] at h <;> first | exact h.elim | exact trivial | skip
  case cells.cells => subst h; simpa only [SObj.holds, denL_ren] using hh
  case cells.roc =>
    subst h
    simp only [SObj.holds, denL_ren] at hh ⊢
    obtain ⟨h0, T, vs, hd, hw⟩ := hh
    refine ⟨vs.toArray, T, (0, 0), vs, hw, hd, fun j v hj => ?_⟩
    rw [h0]; simpa using hj
  case roc.roc => subst h; simpa only [SObj.holds, denL_ren] using hh
  case glob.roc =>
    subst h
    simp only [SObj.holds, denL_ren] at hh ⊢
    exact hh.2
  case glob.glob => obtain ⟨rfl, rfl⟩ := h; simpa only [SObj.holds, denL_ren] using hh
  case arr.arr =>
    obtain ⟨rfl, rfl, rfl, hg⟩ := h
    simp only [SObj.holds] at hh ⊢
    obtain ⟨h0, T, c, h1, h2, h3, h4⟩ := hh
    refine ⟨h0, T, c, h1, h2, h3, fun k hk => ?_⟩
    have := h4 k hk
    rwa [hg k hk, denL_ren] at this
  case arr.roa =>
    obtain ⟨rfl, rfl, hg⟩ := h
    simp only [SObj.holds] at hh ⊢
    obtain ⟨h0, T, c, h1, h2, h3, h4⟩ := hh
    refine ⟨c, T, (0, 0), h1, fun k hk => ?_⟩
    have := h4 k hk
    rw [hg k hk, denL_ren] at this
    obtain ⟨vs, p, q, r⟩ := this
    exact ⟨vs, p, q, fun j v hj => by rw [h0, Nat.zero_add]; exact r j v hj⟩
  case roa.roa =>
    obtain ⟨rfl, rfl, hg⟩ := h
    simp only [SObj.holds] at hh ⊢
    obtain ⟨c, T, fz, h1, h4⟩ := hh
    refine ⟨c, T, fz, h1, fun k hk => ?_⟩
    have := h4 k hk
    rwa [hg k hk, denL_ren] at this
  case obj.obj =>
    simp only [SObj.holds] at hh ⊢
    obtain ⟨ob, h1, h2⟩ := hh
    exact ⟨ob, h1, h _ h2⟩
  case ext.ext => subst h; exact hh
  case memo.memo =>
    obtain ⟨rfl, rfl, h⟩ := h
    rcases h with rfl | rfl
    · obtain ⟨ob, h1, es, clock, h2, h3, _⟩ := hh
      exact ⟨ob, h1, es, clock, h2, h3, fun ks hks => by cases hks⟩
    · exact hh
  case loopr.loopr =>
    obtain ⟨hT, rfl, rfl, rfl, rfl, rfl⟩ := h
    simp only [SObj.holds] at hh ⊢
    obtain ⟨fn, d, tmps, h1, h2⟩ := hh
    exact ⟨fn, d, tmps, hT.rel h1, h2⟩
  case cmap.cmap => subst h; exact hh
  case citer.citer => obtain ⟨rfl, rfl⟩ := h; exact hh
  case pool.pool =>
    obtain ⟨_, rfl, hl, hg⟩ := h
    intro k hk
    rcases hh k hk with ⟨h1, h2⟩ | ⟨b, T, c, h1, h3, h4⟩
    · exact .inl ⟨h1, by rw [← hl k hk]; exact h2⟩
    · exact .inr ⟨b, T, c, h1, h3, fun m hm => by rw [← hl k hk] at hm; rw [← hg k hk m hm]; exact h4 m hm⟩
  case vec.vec =>
    obtain ⟨rfl, rfl, hg⟩ := h
    simp only [SObj.holds] at hh ⊢
    obtain ⟨h0, hF, hh⟩ := hh
    refine ⟨h0, hF, ?_⟩
    rcases hh with hh | ⟨hn, T, b, cap, T', c, h1, h2, h3, h4, h5, h6, h7, h8⟩
    · exact .inl hh
    · refine .inr ⟨hn, T, b, cap, T', c, h1, h2, h3, h4, h5, h6, h7, fun k hk => ?_⟩
      have := h8 k hk
      rwa [hg k hk, denL_ren] at this

/-- Where the small heap's blocks lie in the great one; new ones come behind it. -/
def sig (σ : List Nat) (n : Nat) (i : Nat) : Nat :=
  match σ[i]? with
  | some j => j
  | none => n + (i - σ.length)

/-- The great heap has the small one's blocks. -/
def Fits (F : Nat → Nat) (h : SHeap) : List Nat → SHeap → Prop
  | [], [] => True
  | j :: σ, some o0 :: h0 => (match h[j]? with
    | some (some o) => ObjLe F o o0
    | _ => False) ∧ Fits F h σ h0
  | _, _ => False
theorem Fits.get {F : Nat → Nat} {h : SHeap} : ∀ {σ : List Nat} {h0 : SHeap}, Fits F h σ h0 → σ.length = h0.length ∧ ∀ i, i < h0.length → ∃ j o0 o, σ[i]? = some j ∧ h0[i]? = some (some o0) ∧ h[j]? = some (some o) ∧ ObjLe F o o0
  | [], [], _ => ⟨rfl, fun i hi => by simp at hi⟩
  | [], _ :: _, h => h.elim
  | _ :: _, [], h => h.elim
  | _ :: _, none :: _, h => h.elim
  | j :: σ, some o0 :: h0, hf => by
    obtain ⟨h1, h2⟩ := hf
    obtain ⟨e, hg⟩ := Fits.get h2
    refine ⟨by simp [e], fun i hi => ?_⟩
    cases i with
    | zero =>
      split at h1
      · rename_i o ho
        exact ⟨j, o0, o, rfl, rfl, ho, h1⟩
      · exact h1.elim
    | succ i =>
      obtain ⟨j', o0', o', p⟩ := hg i (by simpa using hi)
      exact ⟨j', o0', o', by simpa using p⟩

def rwAt (h0 : SHeap) (i : Nat) : Bool :=
  match h0[i]? with
  | some (some o) => o.rw
  | _ => false
/-- Blocks that are written lie apart. -/
def Apart : List Nat → SHeap → Prop
  | [], _ => True
  | j :: σ, h0 => (match h0.head? with
    | some (some o) => (o.rw = true → ∀ j' ∈ σ, j' ≠ j)
    | _ => True) ∧ (∀ i j', σ[i]? = some j' → rwAt h0 (i + 1) = true → j' ≠ j) ∧ Apart σ h0.tail
theorem Apart.ne : ∀ {σ : List Nat} {h0 : SHeap}, Apart σ h0 → ∀ {i k j j' : Nat}, i ≠ k → σ[i]? = some j → σ[k]? = some j' → rwAt h0 i = true → j ≠ j'
  | [], _, _, _, _, _, _, _, h1, _, _ => by simp at h1
  | x :: σ, h0, ha, i, k, j, j', hik, h1, h2, hr => by
    obtain ⟨a1, a2, a3⟩ := ha
    cases i with
    | zero =>
      cases k with
      | zero => exact (hik rfl).elim
      | succ k =>
        simp at h1 h2
        subst h1
        cases h0 with
        | nil => simp [rwAt] at hr
        | cons o h0 =>
          cases o with
          | none => simp [rwAt] at hr
          | some o =>
            simp only [List.head?_cons] at a1
            have : o.rw = true := by simpa [rwAt] using hr
            exact fun e => a1 this j' (List.mem_of_getElem? h2) e.symm
    | succ i =>
      simp at h1
      cases k with
      | zero =>
        simp at h2
        subst h2
        exact a2 i j h1 hr
      | succ k =>
        simp at h2
        refine Apart.ne a3 (fun e => hik (by omega)) h1 h2 ?_
        cases h0 with
        | nil => simp [rwAt] at hr
        | cons o h0 => simpa [rwAt] using hr

/-- New and written blocks belong to the call alone. -/
def Own (h0 h' : SHeap) : Prop := ∀ i o, (h0.length ≤ i ∨ rwAt h0 i = true) → h'[i]? = some (some o) → o.rw = true ∨ o = .dead

/-- The great heap after the call. -/
def putH (F : Nat → Nat) (h0 h' : SHeap) : List Nat → Nat → SHeap → SHeap
  | [], _, h => h
  | j :: σ, i, h => putH F h0 h' σ (i + 1) (if rwAt h0 i then h.set j ((h'[i]?).bind fun o => o.map (renO F)) else h)
def newH (F : Nat → Nat) (h : SHeap) : SHeap := h.map fun o => o.map (renO F)
def updH (σ : List Nat) (h h0 h' : SHeap) : SHeap := putH (sig σ h.length) h0 h' σ 0 h ++ newH (sig σ h.length) (h'.drop h0.length)

theorem putH_length {F : Nat → Nat} {h0 h' : SHeap} : ∀ {σ : List Nat} {i : Nat} {h : SHeap}, (putH F h0 h' σ i h).length = h.length
  | [], _, _ => rfl
  | j :: σ, i, h => by rw [putH, putH_length]; split <;> simp
theorem putH_other {F : Nat → Nat} {h0 h' : SHeap} {j : Nat} : ∀ {σ : List Nat} {i : Nat} {h : SHeap}, (∀ k, σ[k]? = some j → rwAt h0 (i + k) = false) → (putH F h0 h' σ i h)[j]? = h[j]?
  | [], _, _, _ => rfl
  | x :: σ, i, h, hn => by
    rw [putH, putH_other (fun k hk => by have := hn (k + 1) (by simpa using hk); rwa [show i + (k + 1) = i + 1 + k by omega] at this)]
    split
    · rename_i hr
      rw [List.getElem?_set_ne]
      intro e
      have := hn 0 (by simp [e])
      simp [hr] at this
    · rfl
theorem putH_at {F : Nat → Nat} {h0 h' : SHeap} {j k : Nat} : ∀ {σ : List Nat} {i : Nat} {h : SHeap}, j < h.length → σ[k]? = some j → rwAt h0 (i + k) = true → (∀ k', k' ≠ k → σ[k']? ≠ some j) → (putH F h0 h' σ i h)[j]? = some ((h'[i + k]?).bind fun o => o.map (renO F))
  | [], _, _, _, hk, _, _ => by simp at hk
  | x :: σ, i, h, hj, hk, hr, hn => by
    rw [putH]
    cases k with
    | zero =>
      simp at hk
      subst hk
      rw [putH_other (fun k hk => absurd (by simpa using hk) (hn (k + 1) (by omega)))]
      rw [Nat.add_zero] at hr ⊢
      rw [if_pos hr]
      simp [hj]
    | succ k =>
      rw [show i + (k + 1) = i + 1 + k by omega] at hr ⊢
      refine putH_at (by split <;> simpa using hj) (by simpa using hk) hr fun k' hne => ?_
      have := hn (k' + 1) (by omega)
      simpa using this

theorem lt_of_get {h : SHeap} {i : Nat} {x : Option SObj} (e : h[i]? = some x) : i < h.length := by
  rcases Nat.lt_or_ge i h.length with hl | hl
  · exact hl
  · rw [List.getElem?_eq_none hl] at e; cases e

theorem CallG.frame {C0 C : Nam → List Value → World → (Ending → World → Prop) → Prop} {a0 args : List SV} {h0 h : SHeap} {K0 K : CE → SHeap → Prop} (hc : CallG C0 a0 h0 K0) (σ : List Nat)
    (hf : Fits (sig σ h.length) h σ h0) (hap : Apart σ h0) (ha : renL (sig σ h.length) a0 = args)
    (hC : ∀ (η : Nam) (vs : List Value) (w : World) (R R' : Ending → World → Prop), (∀ e w', R e w' → R' e w') → C0 (fun i => if i < h0.length then η (sig σ h.length i) else none) vs w R → C η vs w R')
    (hk : ∀ ce h', K0 ce h' → Own h0 h' ∧ K (renC (sig σ h.length) ce) (updH σ h h0 h')) : CallG C args h K := by
  intro η φ w0 Ef w vs hs hd
  obtain ⟨hlen, hget⟩ := hf.get
  have hsig : ∀ i, i < h0.length → ∃ j, σ[i]? = some j ∧ sig σ h.length i = j ∧ j < h.length := fun i hi => by
    obtain ⟨j, o0, o, e1, e2, e3, e4⟩ := hget i hi
    exact ⟨j, e1, by simp [sig, e1], lt_of_get e3⟩
  have hsig2 : ∀ i, h0.length ≤ i → sig σ h.length i = h.length + (i - h0.length) := fun i hi => by
    simp [sig, List.getElem?_eq_none (by omega : σ.length ≤ i), hlen]
  have hinj : ∀ i k, i < h0.length → k < h0.length → i ≠ k → rwAt h0 i = true → sig σ h.length i ≠ sig σ h.length k := fun i k hi hk hik hr => by
    obtain ⟨j, e1, e2, _⟩ := hsig i hi
    obtain ⟨j', e1', e2', _⟩ := hsig k hk
    rw [e2, e2']
    exact hap.ne hik e1 e1' hr
  let F := sig σ h.length
  let η0 : Nam := fun i => if i < h0.length then η (F i) else none
  let φ0 : Feet := fun i => φ (F i)
  let Ef0 : Nat → Prop := fun b => ∃ i o0 a, h0[i]? = some (some o0) ∧ o0.rw = true ∧ η (F i) = some a ∧ o0.foot a (φ (F i)) b
  have hη0 : ∀ i, i < h0.length → η0 i = η (F i) := fun i hi => if_pos hi
  have hη0n : ∀ i, ¬ i < h0.length → η0 i = none := fun i hi => if_neg hi
  have hηnone : ∀ j, h.length ≤ j → η j = none := fun j hj => by
    cases e : η j with
    | none => rfl
    | some a =>
      obtain ⟨o, ho⟩ := hs.dom j a e
      have := lt_of_get ho
      omega
  have hηF : (fun i => η (F i)) = η0 := funext fun i => by
    by_cases hi : i < h0.length
    · exact (hη0 i hi).symm
    · rw [hη0n i hi]
      exact hηnone _ (by show h.length ≤ sig σ h.length i; rw [hsig2 i (by omega)]; omega)
  have hent : ∀ i o0, h0[i]? = some (some o0) → i < h0.length ∧ ∃ o, h[F i]? = some (some o) ∧ ObjLe F o o0 := fun i o0 e => by
    have hi := lt_of_get e
    obtain ⟨j, o0', o, e1, e2, e3, e4⟩ := hget i hi
    rw [e] at e2; cases e2
    refine ⟨hi, o, ?_, e4⟩
    obtain ⟨j', e1', e2', _⟩ := hsig i hi
    rw [e1] at e1'; cases e1'
    show h[sig σ h.length i]? = _
    rw [e2']; exact e3
  have hEf : ∀ b, Ef0 b → Ef b ∨ w0.heap.size ≤ b := fun b ⟨i, o0, a, e1, e2, e3, e4⟩ => by
    obtain ⟨_, o, e5, e6⟩ := hent i o0 e1
    exact hs.own _ o a b e5 e3 (e6.rw e2) (e6.foot a _ b e4)
  have hEfw : ∀ b, Ef0 b → b < w.heap.size := fun b ⟨i, o0, a, e1, e2, e3, e4⟩ => by
    obtain ⟨_, o, e5, e6⟩ := hent i o0 e1
    exact hs.bnd _ o a b e5 e3 (e6.foot a _ b e4)
  have hs0 : Sat η0 φ0 h0 w Ef0 w :=
    { size := Nat.le_refl _
      env := .refl w
      keep := fun _ _ _ => rfl
      dom := fun i a e => by
        by_cases hi : i < h0.length
        · obtain ⟨j, o0, o, e1, e2, e3, e4⟩ := hget i hi
          exact ⟨o0, e2⟩
        · rw [hη0n i hi] at e; cases e
      named := fun i o0 e => by
        obtain ⟨hi, o, e5, e6⟩ := hent i o0 e
        rw [hη0 i hi]
        exact hs.named _ o e5
      holds := fun i o0 a e ea => by
        obtain ⟨hi, o, e5, e6⟩ := hent i o0 e
        rw [hη0 i hi] at ea
        have := e6.holds (hs.holds _ o a e5 ea)
        rwa [hηF] at this
      bnd := fun i o0 a b e ea eb => by
        obtain ⟨hi, o, e5, e6⟩ := hent i o0 e
        rw [hη0 i hi] at ea
        exact hs.bnd _ o a b e5 ea (e6.foot a _ b eb)
      own := fun i o0 a b e ea er eb => by
        obtain ⟨hi, o, e5, e6⟩ := hent i o0 e
        rw [hη0 i hi] at ea
        exact .inl ⟨i, o0, a, e, er, ea, eb⟩
      sep := fun i k oi ok ai ak b hik ei ek eai eak er eb ebk => by
        obtain ⟨hi, o, e5, e6⟩ := hent i oi ei
        obtain ⟨hk, o', e5', e6'⟩ := hent k ok ek
        rw [hη0 i hi] at eai
        rw [hη0 k hk] at eak
        exact hs.sep _ _ o o' ai ak b (hinj i k hi hk hik (by simp [rwAt, ei, er])) e5 e5' eai eak (e6.rw er) (e6.foot _ _ b eb) (e6'.foot _ _ b ebk) }
  have hd0 : denL η0 a0 = some vs := by
    rw [← hηF, ← denL_ren]
    rw [← ha] at hd
    exact hd
  refine hC η vs w _ _ ?_ (hc η0 φ0 w Ef0 w vs hs0 hd0)
  rintro e w' ⟨ce, h', η', φ', k0, hl, hpin, hcr, hs'⟩
  obtain ⟨hown, k⟩ := hk ce h' k0
  let ηR : Nam := fun j => if j < h.length then η j else η' (h0.length + (j - h.length))
  have hηR : (fun i => ηR (F i)) = η' := funext fun i => by
    by_cases hi : i < h0.length
    · obtain ⟨j, e1, e2, e3⟩ := hsig i hi
      have e4 : F i < h.length := by show sig σ h.length i < _; rw [e2]; exact e3
      show (if F i < h.length then η (F i) else _) = _
      rw [if_pos e4, hpin i hi, hη0 i hi]
    · have e4 : F i = h.length + (i - h0.length) := hsig2 i (by omega)
      show (if F i < h.length then η (F i) else η' (h0.length + (F i - h.length))) = _
      rw [if_neg (by omega), e4]
      congr 1; omega
  have hle : η.le ηR := fun j a e => by
    obtain ⟨o, ho⟩ := hs.dom j a e
    show (if j < h.length then η j else _) = _
    rw [if_pos (lt_of_get ho)]; exact e
  -- which blocks of the great heap come from which of the small one
  have hlenp : (putH F h0 h' σ 0 h).length = h.length := putH_length
  have hcase : ∀ j o, (updH σ h h0 h')[j]? = some (some o) →
      (∃ i o', (h0.length ≤ i ∨ rwAt h0 i = true) ∧ i < h'.length ∧ h'[i]? = some (some o') ∧ o = renO F o' ∧ F i = j) ∨ (j < h.length ∧ h[j]? = some (some o) ∧ ∀ i, i < h0.length → rwAt h0 i = true → F i ≠ j) := fun j o e => by
    unfold updH at e
    by_cases hj : j < h.length
    · rw [List.getElem?_append_left (by rw [putH_length]; exact hj)] at e
      by_cases hx : ∃ i, i < h0.length ∧ rwAt h0 i = true ∧ F i = j
      · obtain ⟨i, hi, hr, hFi⟩ := hx
        obtain ⟨j', e1, e2, e3⟩ := hsig i hi
        have e4 : j' = j := by rw [← e2]; exact hFi
        subst e4
        rw [putH_at hj e1 (by simpa using hr) (fun k' hne hk' => hap.ne (Ne.symm hne) e1 hk' hr rfl)] at e
        simp only [Nat.zero_add] at e
        rw [Option.some.injEq, Option.bind_eq_some_iff] at e
        obtain ⟨o1, h1, h2⟩ := e
        simp only [Option.map_eq_some_iff] at h2
        obtain ⟨o2, rfl, rfl⟩ := h2
        exact .inl ⟨i, o2, .inr hr, by omega, h1, rfl, hFi⟩
      · rw [putH_other (fun k hk => ?_)] at e
        · exact .inr ⟨hj, e, fun i hi hr hFi => hx ⟨i, hi, hr, hFi⟩⟩
        · rw [Nat.zero_add]
          cases hr : rwAt h0 k with
          | false => rfl
          | true =>
            have hkl : k < h0.length := by
              have : k < σ.length := by
                rcases Nat.lt_or_ge k σ.length with hl | hl
                · exact hl
                · rw [List.getElem?_eq_none hl] at hk; cases hk
              omega
            obtain ⟨j', e1, e2, e3⟩ := hsig k hkl
            rw [hk] at e1; cases e1
            exact (hx ⟨k, hkl, hr, e2⟩).elim
    · rw [List.getElem?_append_right (by rw [putH_length]; omega), putH_length] at e
      simp only [newH, List.getElem?_map, List.getElem?_drop, Option.map_eq_some_iff] at e
      obtain ⟨o1, h1, o2, rfl, rfl⟩ := e
      refine .inl ⟨h0.length + (j - h.length), o2, .inl (by omega), lt_of_get h1, h1, rfl, ?_⟩
      show sig σ h.length _ = _
      rw [hsig2 _ (by omega)]; omega
  have hηj : ∀ i, ηR (F i) = η' i := fun i => congrFun hηR i
  have hφ : ∃ φR : Feet, (∀ i, i < h'.length → (h0.length ≤ i ∨ rwAt h0 i = true) → φR (F i) = φ' i) ∧ ∀ j, j < h.length → (∀ i, i < h0.length → rwAt h0 i = true → F i ≠ j) → φR j = φ j := by
    classical
    refine ⟨fun j => if hx : ∃ i, i < h'.length ∧ (h0.length ≤ i ∨ rwAt h0 i = true) ∧ F i = j then φ' hx.choose else φ j, fun i hi hr => ?_, fun j hj hn => ?_⟩
    · have hx : ∃ i', i' < h'.length ∧ (h0.length ≤ i' ∨ rwAt h0 i' = true) ∧ F i' = F i := ⟨i, hi, hr, rfl⟩
      have e1 : hx.choose = i := by
        obtain ⟨p1, p2, p3⟩ := hx.choose_spec
        generalize hx.choose = i' at p1 p2 p3 ⊢
        by_cases hi0 : i < h0.length
        · by_cases hi0' : i' < h0.length
          · rcases Nat.decEq i' i with hne | he
            · have hr' : rwAt h0 i' = true := by rcases p2 with p2 | p2; · omega
                                                 · exact p2
              exact (hinj i' i hi0' hi0 hne hr' p3).elim
            · exact he
          · obtain ⟨j, e1, e2, e3⟩ := hsig i hi0
            have e4 : F i' = h.length + (i' - h0.length) := hsig2 i' (by omega)
            have e5 : F i = j := e2
            omega
        · by_cases hi0' : i' < h0.length
          · obtain ⟨j, e1, e2, e3⟩ := hsig i' hi0'
            have e4 : F i = h.length + (i - h0.length) := hsig2 i (by omega)
            have e5 : F i' = j := e2
            omega
          · have e4 : F i = h.length + (i - h0.length) := hsig2 i (by omega)
            have e5 : F i' = h.length + (i' - h0.length) := hsig2 i' (by omega)
            omega
      simp only [dif_pos hx, e1]
    · have hx : ¬ ∃ i', i' < h'.length ∧ (h0.length ≤ i' ∨ rwAt h0 i' = true) ∧ F i' = j := by
        rintro ⟨i', p1, p2, p3⟩
        by_cases hi0' : i' < h0.length
        · exact hn i' hi0' (by rcases p2 with p2 | p2; · omega
                               · exact p2) p3
        · have e5 : F i' = h.length + (i' - h0.length) := hsig2 i' (by omega)
          omega
      simp only [dif_neg hx]
  obtain ⟨φR, hφ1, hφ2⟩ := hφ
  have hnot : ∀ j o a b, j < h.length → h[j]? = some (some o) → η j = some a → (∀ i, i < h0.length → rwAt h0 i = true → F i ≠ j) → o.foot a (φ j) b → ¬ Ef0 b := by
    rintro j o a b hj ho ea hn hb ⟨i, o0, a', e1, e2, e3, e4⟩
    obtain ⟨hi, o1, e5, e6⟩ := hent i o0 e1
    have hr : rwAt h0 i = true := by simp [rwAt, e1, e2]
    exact hs.sep (F i) j o1 o a' a b (hn i hi hr) e5 ho e3 ea (e6.rw e2) (e6.foot _ _ b e4) hb
  have hRlen : (updH σ h h0 h').length = h.length + (h'.length - h0.length) := by
    simp [updH, putH_length, newH]
  have hRη : ∀ j, j < h.length → ηR j = η j := fun j hj => if_pos hj
  refine ⟨_, updH σ h h0 h', ηR, φR, k, by omega, fun j hj => hRη j hj, ?_, ?_⟩
  · cases ce with
    | ret v =>
      obtain ⟨u, hu, rfl⟩ := hcr
      refine ⟨u, ?_, rfl⟩
      rw [den_ren]
      have : (fun i => ηR (sig σ h.length i)) = η' := hηR
      rw [this]; exact hu
    | panic v =>
      obtain ⟨u, hu, rfl⟩ := hcr
      refine ⟨u, ?_, rfl⟩
      rw [den_ren]
      have : (fun i => ηR (sig σ h.length i)) = η' := hηR
      rw [this]; exact hu
  · exact
    { size := Nat.le_trans hs.size hs'.size
      env := hs.env.trans hs'.env
      keep := fun b hb he => by
        rw [hs'.keep b (Nat.lt_of_lt_of_le hb hs.size) fun hE => ?_]
        · exact hs.keep b hb he
        · rcases hEf b hE with h1 | h1
          · exact he h1
          · omega
      dom := fun j a e => by
        by_cases hj : j < h.length
        · rw [hRη j hj] at e
          obtain ⟨o, ho⟩ := hs.dom j a e
          by_cases hx : ∃ i, i < h0.length ∧ rwAt h0 i = true ∧ F i = j
          · obtain ⟨i, hi, hr, hFi⟩ := hx
            obtain ⟨j', e1, e2, e3⟩ := hsig i hi
            have e4 : j' = j := by rw [← e2]; exact hFi
            subst e4
            have e5 : η' i = some a := by rw [← hηj i, hFi, hRη _ hj]; exact e
            obtain ⟨o', ho'⟩ := hs'.dom i a e5
            refine ⟨renO F o', ?_⟩
            unfold updH
            rw [List.getElem?_append_left (by rw [putH_length]; exact hj)]
            rw [putH_at hj e1 (by simpa using hr) (fun k' hne hk' => hap.ne (Ne.symm hne) e1 hk' hr rfl)]
            simp [ho', F]
          · refine ⟨o, ?_⟩
            unfold updH
            rw [List.getElem?_append_left (by rw [putH_length]; exact hj)]
            rw [putH_other (fun k hk => ?_)]
            · exact ho
            · rw [Nat.zero_add]
              cases hr : rwAt h0 k with
              | false => rfl
              | true =>
                have hkl : k < h0.length := by
                  have : k < σ.length := by
                    rcases Nat.lt_or_ge k σ.length with hl | hl
                    · exact hl
                    · rw [List.getElem?_eq_none hl] at hk; cases hk
                  omega
                obtain ⟨j', e1, e2, e3⟩ := hsig k hkl
                rw [hk] at e1; cases e1
                exact (hx ⟨k, hkl, hr, e2⟩).elim
        · have e1 : ηR j = η' (h0.length + (j - h.length)) := if_neg hj
          rw [e1] at e
          obtain ⟨o', ho'⟩ := hs'.dom _ a e
          refine ⟨renO F o', ?_⟩
          unfold updH
          rw [List.getElem?_append_right (by rw [putH_length]; omega), putH_length]
          simp [newH, ho', F]
      named := fun j o e => by
        rcases hcase j o e with ⟨i, o', hr, hi, ho', rfl, rfl⟩ | ⟨hj, ho, hn⟩
        · rw [hηj i]; exact hs'.named i o' ho'
        · rw [hRη j hj]; exact hs.named j o ho
      holds := fun j o a e ea => by
        rcases hcase j o e with ⟨i, o', hr, hi, ho', rfl, rfl⟩ | ⟨hj, ho, hn⟩
        · rw [hηj i] at ea
          rw [hφ1 i hi hr, renO_holds hηR]
          exact hs'.holds i o' a ho' ea
        · rw [hRη j hj] at ea
          rw [hφ2 j hj hn]
          refine SObj.holds_mono hle (SObj.holds_local (hs.holds j o a ho ea) fun b hb => ?_)
          exact hs'.keep b (hs.bnd j o a b ho ea hb) (hnot j o a b hj ho ea hn hb)
      bnd := fun j o a b e ea hb => by
        rcases hcase j o e with ⟨i, o', hr, hi, ho', rfl, rfl⟩ | ⟨hj, ho, hn⟩
        · rw [hηj i] at ea
          rw [hφ1 i hi hr, renO_foot] at hb
          exact hs'.bnd i o' a b ho' ea hb
        · rw [hRη j hj] at ea
          rw [hφ2 j hj hn] at hb
          exact Nat.lt_of_lt_of_le (hs.bnd j o a b ho ea hb) hs'.size
      own := fun j o a b e ea er hb => by
        rcases hcase j o e with ⟨i, o', hr, hi, ho', rfl, rfl⟩ | ⟨hj, ho, hn⟩
        · rw [hηj i] at ea
          rw [hφ1 i hi hr, renO_foot] at hb
          rw [renO_rw] at er
          rcases hs'.own i o' a b ho' ea er hb with h1 | h1
          · exact hEf b h1
          · exact .inr (Nat.le_trans hs.size h1)
        · rw [hRη j hj] at ea
          rw [hφ2 j hj hn] at hb
          exact hs.own j o a b ho ea er hb
      sep := fun j k oj ok aj ak b hjk ej ek eaj eak er hb hbk => by
        rcases hcase j oj ej with ⟨i, o', hr, hi, ho', rfl, rfl⟩ | ⟨hj, ho, hn⟩
        · rw [hηj i] at eaj
          rw [hφ1 i hi hr, renO_foot] at hb
          rw [renO_rw] at er
          rcases hcase k ok ek with ⟨i2, o2, hr2, hi2, ho2, rfl, rfl⟩ | ⟨hk2, ho2, hn2⟩
          · rw [hηj i2] at eak
            rw [hφ1 i2 hi2 hr2, renO_foot] at hbk
            exact hs'.sep i i2 o' o2 aj ak b (fun e => hjk (by rw [e])) ho' ho2 eaj eak er hb hbk
          · rw [hRη k hk2] at eak
            rw [hφ2 k hk2 hn2] at hbk
            rcases hs'.own i o' aj b ho' eaj er hb with h1 | h1
            · exact hnot k ok ak b hk2 ho2 eak hn2 hbk h1
            · have := hs.bnd k ok ak b ho2 eak hbk; omega
        · rw [hRη j hj] at eaj
          rw [hφ2 j hj hn] at hb
          rcases hcase k ok ek with ⟨i2, o2, hr2, hi2, ho2, rfl, rfl⟩ | ⟨hk2, ho2, hn2⟩
          · rw [hηj i2] at eak
            rw [hφ1 i2 hi2 hr2, renO_foot] at hbk
            rcases hown i2 o2 hr2 ho2 with hrw2 | rfl
            · rcases hs'.own i2 o2 ak b ho2 eak hrw2 hbk with h1 | h1
              · exact hnot j oj aj b hj ho eaj hn hb h1
              · have := hs.bnd j oj aj b ho eaj hb; omega
            · exact hbk
          · rw [hRη k hk2] at eak
            rw [hφ2 k hk2 hn2] at hbk
            exact hs.sep j k oj ok aj ak b hjk ho ho2 eaj eak er hb hbk }

theorem CallP.frame {P : Program} {f : FuncId} {a0 args : List SV} {h0 h : SHeap} {K0 K : CE → SHeap → Prop} (hc : CallP P f a0 h0 K0) (σ : List Nat)
    (hf : Fits (sig σ h.length) h σ h0) (hap : Apart σ h0) (ha : renL (sig σ h.length) a0 = args)
    (hk : ∀ ce h', K0 ce h' → Own h0 h' ∧ K (renC (sig σ h.length) ce) (updH σ h h0 h')) : CallP P f args h K :=
  CallG.frame (C0 := fun _ vs w R => Calls P f vs.toArray w R) (C := fun _ vs w R => Calls P f vs.toArray w R) hc σ hf hap ha (fun _ _ _ _ _ hm hx => hx.mono hm) hk
theorem YieldP.frame {P : Program} {i i0 : Nat} {a0 args : List SV} {h0 h : SHeap} {K0 K : CE → SHeap → Prop} (hc : YieldP P i0 a0 h0 K0) (σ : List Nat)
    (hf : Fits (sig σ h.length) h σ h0) (hap : Apart σ h0) (ha : renL (sig σ h.length) a0 = args) (hi : sig σ h.length i0 = i)
    (hk : ∀ ce h', K0 ce h' → Own h0 h' ∧ K (renC (sig σ h.length) ce) (updH σ h h0 h')) : YieldP P i args h K :=
  CallG.frame (C0 := yieldC P i0) (C := yieldC P i) hc σ hf hap ha (fun η vs w R R' hm hx => by
    obtain ⟨a, f, tmps, assign, body, e1, e2, e3⟩ := hx
    have e1' : η i = some a := by
      rw [← hi]
      by_cases hl : i0 < h0.length
      · simpa [hl] using e1
      · simp [hl] at e1
    exact ⟨a, f, tmps, assign, body, e1', e2, e3.mono hm⟩) hk
end Go.Sy
/-
  Sy14: how contracts are said and used: with tests that compute. No program is named.
-/
namespace Go.Sy

def apartB : List Nat → SHeap → Bool
  | [], _ => true
  | j :: σ, h0 => go j (rwAt h0 0) σ 1 h0 && apartB σ h0.tail
where
  go (j : Nat) (r : Bool) : List Nat → Nat → SHeap → Bool
    | [], _, _ => true
    | j' :: σ, i, h0 => ((!r && !rwAt h0 i) || !Nat.beq j j') && go j r σ (i + 1) h0
theorem apartB_go {j : Nat} {r : Bool} : ∀ {σ : List Nat} {i : Nat} {h0 : SHeap}, apartB.go j r σ i h0 = true → (r = true → ∀ j' ∈ σ, j' ≠ j) ∧ ∀ k j', σ[k]? = some j' → rwAt h0 (i + k) = true → j' ≠ j
  | [], _, _, _ => ⟨fun _ _ h => by simp at h, fun _ _ h => by simp at h⟩
  | x :: σ, i, h0, h => by
    simp only [apartB.go, Bool.and_eq_true, Bool.or_eq_true, Bool.not_eq_true', ← Bool.not_eq_true, Nat.beq_eq] at h
    obtain ⟨h1, h2⟩ := h
    obtain ⟨g1, g2⟩ := apartB_go h2
    refine ⟨fun hr j' hj' => ?_, fun k j' hk hr => ?_⟩
    · rcases List.mem_cons.1 hj' with rfl | hj'
      · rcases h1 with h1 | h1
        · exact (h1.1 hr).elim
        · exact fun e => h1 e.symm
      · exact g1 hr j' hj'
    · cases k with
      | zero =>
        simp at hk
        subst hk
        rcases h1 with h1 | h1
        · exact (h1.2 (by simpa using hr)).elim
        · exact fun e => h1 e.symm
      | succ k => exact g2 k j' (by simpa using hk) (by rwa [show i + 1 + k = i + (k + 1) by omega])
theorem apartB_ok : ∀ {σ : List Nat} {h0 : SHeap}, apartB σ h0 = true → Apart σ h0
  | [], _, _ => trivial
  | j :: σ, h0, h => by
    simp only [apartB, Bool.and_eq_true] at h
    obtain ⟨h1, h2⟩ := h
    obtain ⟨g1, g2⟩ := apartB_go h1
    refine ⟨?_, fun i j' hi hr => g2 i j' hi (by rwa [Nat.add_comm]), apartB_ok h2⟩
    cases h0 with
    | nil => exact trivial
    | cons o h0 =>
      cases o with
      | none => exact trivial
      | some o => exact fun hr => g1 (by simpa [rwAt] using hr)

def ownO : Option SObj → Bool
  | some .dead => true
  | some o => o.rw
  | none => true
def ownB : SHeap → SHeap → Bool
  | some o :: h0, x :: h' => (!o.rw || ownO x) && ownB h0 h'
  | none :: h0, _ :: h' => ownB h0 h'
  | [], x :: h' => ownO x && ownB [] h'
  | _, [] => true
theorem ownO_ok {o : SObj} (h : ownO (some o) = true) : o.rw = true ∨ o = .dead := by
  cases o <;> simp_all [ownO, SObj.rw]
theorem ownB_ok : ∀ {h0 h' : SHeap}, ownB h0 h' = true → Own h0 h'
  | some o :: h0, x :: h', h => by
    simp only [ownB, Bool.and_eq_true, Bool.or_eq_true, Bool.not_eq_true'] at h
    intro i o' hi e
    cases i with
    | zero =>
      simp at e
      subst e
      rcases hi with hi | hi
      · simp at hi
      · simp only [rwAt, List.getElem?_cons_zero] at hi
        rcases h.1 with h1 | h1
        · rw [h1] at hi; cases hi
        · exact ownO_ok h1
    | succ i => exact ownB_ok h.2 i o' (by simpa [rwAt] using hi) (by simpa using e)
  | none :: h0, x :: h', h => by
    intro i o' hi e
    cases i with
    | zero => simp [rwAt] at hi
    | succ i => exact ownB_ok (h0 := h0) (h' := h') (by simpa [ownB] using h) i o' (by simpa [rwAt] using hi) (by simpa using e)
  | [], x :: h', h => by
    simp only [ownB, Bool.and_eq_true] at h
    intro i o' _ e
    cases i with
    | zero => simp at e; subst e; exact ownO_ok h.1
    | succ i => exact ownB_ok h.2 i o' (.inl (Nat.zero_le _)) (by simpa using e)
  | some _ :: _, [], _ => fun i o' _ e => by simp at e
  | none :: _, [], _ => fun i o' _ e => by simp at e
  | [], [], _ => fun i o' _ e => by simp at e

/-! ### Values made whole in depth -/
def fcA (v : SV) (k : SV → Prop) : Prop :=
  match v with
  | .agg cs => k (.agg cs)
  | .tup cs => k (.tup cs)
  | .fn f a b => k (.fn f a b)
  | .bool b => k (.bool b)
  | .int t n => k (.int t n)
  | .str s => k (.str s)
  | .ptr i o => fcN i fun i => fcN o fun o => k (.ptr i o)
  | .eptr i sz j o => fcN i fun i => fcN o fun o => k (.eptr i sz j o)
  | .aptr i o l j => fcN i fun i => fcN o fun o => k (.aptr i o l j)
  | .pnil => k .pnil
  | .slice i sz eo l c => fcN i fun i => k (.slice i sz eo l c)
  | .asl i o al l n => fcN i fun i => fcN o fun o => k (.asl i o al l n)
  | .snil => k .snil
  | .map i => fcN i fun i => k (.map i)
  | .mnil => k .mnil
  | .yld i => k (.yld i)
  | .osl b i sz l c => fcN i fun i => k (.osl b i sz l c)
  | .row i j l c => fcN i fun i => k (.row i j l c)
  | .rptr i j m => fcN i fun i => k (.rptr i j m)
  | .fnil => k .fnil
  | .iface t v => k (.iface t v)
  | .inil => k .inil
  | .val v => k (.val v)
theorem fcA_eq (v : SV) (k : SV → Prop) : fcA v k = k v := by
  cases v <;> simp [fcA, fcN_eq]
def fcLA (l : List SV) (k : List SV → Prop) : Prop :=
  match l with
  | [] => k []
  | x :: xs => fcA x fun x => fcLA xs fun ys => k (x :: ys)
theorem fcLA_eq : ∀ (l : List SV) (k : List SV → Prop), fcLA l k = k l
  | [], _ => rfl
  | x :: xs, k => by rw [fcLA, fcA_eq, fcLA_eq xs]
def fcB (v : SV) (k : SV → Prop) : Prop :=
  match v with
  | .agg cs => fcLA cs fun cs => k (.agg cs)
  | .tup cs => fcLA cs fun cs => k (.tup cs)
  | .fn f a b => fcLA a fun a => fcLA b fun b => k (.fn f a b)
  | .bool b => k (.bool b)
  | .int t n => k (.int t n)
  | .str s => k (.str s)
  | .ptr i o => fcN i fun i => fcN o fun o => k (.ptr i o)
  | .eptr i sz j o => fcN i fun i => fcN o fun o => k (.eptr i sz j o)
  | .aptr i o l j => fcN i fun i => fcN o fun o => k (.aptr i o l j)
  | .pnil => k .pnil
  | .slice i sz eo l c => fcN i fun i => k (.slice i sz eo l c)
  | .asl i o al l n => fcN i fun i => fcN o fun o => k (.asl i o al l n)
  | .snil => k .snil
  | .map i => fcN i fun i => k (.map i)
  | .mnil => k .mnil
  | .yld i => k (.yld i)
  | .osl b i sz l c => fcN i fun i => k (.osl b i sz l c)
  | .row i j l c => fcN i fun i => k (.row i j l c)
  | .rptr i j m => fcN i fun i => k (.rptr i j m)
  | .fnil => k .fnil
  | .iface t v => k (.iface t v)
  | .inil => k .inil
  | .val v => k (.val v)
theorem fcB_eq (v : SV) (k : SV → Prop) : fcB v k = k v := by
  cases v <;> simp [fcB, fcN_eq, fcLA_eq]
def fcLB (l : List SV) (k : List SV → Prop) : Prop :=
  match l with
  | [] => k []
  | x :: xs => fcB x fun x => fcLB xs fun ys => k (x :: ys)
theorem fcLB_eq : ∀ (l : List SV) (k : List SV → Prop), fcLB l k = k l
  | [], _ => rfl
  | x :: xs, k => by rw [fcLB, fcB_eq, fcLB_eq xs]
def fcW (v : SV) (k : SV → Prop) : Prop :=
  match v with
  | .agg cs => fcLB cs fun cs => k (.agg cs)
  | .tup cs => fcLB cs fun cs => k (.tup cs)
  | .fn f a b => fcLA a fun a => fcLA b fun b => k (.fn f a b)
  | .bool b => k (.bool b)
  | .int t n => k (.int t n)
  | .str s => k (.str s)
  | .ptr i o => fcN i fun i => fcN o fun o => k (.ptr i o)
  | .eptr i sz j o => fcN i fun i => fcN o fun o => k (.eptr i sz j o)
  | .aptr i o l j => fcN i fun i => fcN o fun o => k (.aptr i o l j)
  | .pnil => k .pnil
  | .slice i sz eo l c => fcN i fun i => k (.slice i sz eo l c)
  | .asl i o al l n => fcN i fun i => fcN o fun o => k (.asl i o al l n)
  | .snil => k .snil
  | .map i => fcN i fun i => k (.map i)
  | .mnil => k .mnil
  | .yld i => k (.yld i)
  | .osl b i sz l c => fcN i fun i => k (.osl b i sz l c)
  | .row i j l c => fcN i fun i => k (.row i j l c)
  | .rptr i j m => fcN i fun i => k (.rptr i j m)
  | .fnil => k .fnil
  | .iface t v => k (.iface t v)
  | .inil => k .inil
  | .val v => k (.val v)
theorem fcW_eq (v : SV) (k : SV → Prop) : fcW v k = k v := by
  cases v <;> simp [fcW, fcN_eq, fcLA_eq, fcLB_eq]
def fcU (o : SObj) (k : SObj → Prop) : Prop :=
  match o with
  | .cells cs => fcLB cs fun cs => k (.cells cs)
  | .dead => k .dead
  | .arr sz n cap get => k (.arr sz n cap get)
  | .roc cs => fcL cs fun cs => k (.roc cs)
  | .roa sz n get => k (.roa sz n get)
  | .glob g cs => k (.glob g cs)
  | .obj I => k (.obj I)
  | .memo n F has => k (.memo n F has)
  | .ext R => k (.ext R)
  | .loopr T ps a b st p => k (.loopr T ps a b st p)
  | .vec sz n get => k (.vec sz n get)
  | .cmap m => k (.cmap m)
  | .citer l c => k (.citer l c)
  | .pool o n l g => k (.pool o n l g)
theorem fcU_eq (o : SObj) (k : SObj → Prop) : fcU o k = k o := by
  cases o <;> simp [fcU, fcL_eq, fcLB_eq]

/-- A heap's list and its blocks made whole. -/
def fcH (h : SHeap) (k : SHeap → Prop) : Prop :=
  match h with
  | [] => k []
  | none :: xs => fcH xs fun ys => k (none :: ys)
  | some o :: xs => fcU o fun o => fcH xs fun ys => k (some o :: ys)
theorem fcH_eq : ∀ (h : SHeap) (k : SHeap → Prop), fcH h k = k h
  | [], _ => rfl
  | none :: xs, _ => fcH_eq xs _
  | some o :: xs, k => by rw [fcH, fcU_eq, fcH_eq xs]

/-- The call returns just this, in just this heap. -/
def Ret (v : SV) (h : SHeap) : CE → SHeap → Prop := fun ce h' => ce = .ret v ∧ h' = h
/-- The call panics with just this, in just this heap. -/
def Pan (v : SV) (h : SHeap) : CE → SHeap → Prop := fun ce h' => ce = .panic v ∧ h' = h
theorem CallP.use {P : Program} {f : FuncId} {a0 args : List SV} {h0 h' h : SHeap} {v : SV} {K : CE → SHeap → Prop} (hc : CallP P f a0 h0 (Ret v h')) (σ : List Nat)
    (hk : fcH (updH σ h h0 h') fun H => fcW (ren (sig σ h.length) v) fun v => K (.ret v) H)
    (hf : Fits (sig σ h.length) h σ h0) (ha : renL (sig σ h.length) a0 = args)
    (hap : apartB σ h0 = true := by rfl) (ho : ownB h0 h' = true := by rfl) : CallP P f args h K :=
  CallP.frame hc σ hf (apartB_ok hap) ha fun ce h'' hk' => by
    obtain ⟨rfl, rfl⟩ := hk'
    rw [fcH_eq, fcW_eq] at hk
    exact ⟨ownB_ok ho, hk⟩
theorem CallP.useP {P : Program} {f : FuncId} {a0 args : List SV} {h0 h' h : SHeap} {v : SV} {K : CE → SHeap → Prop} (hc : CallP P f a0 h0 (Pan v h')) (σ : List Nat)
    (hk : fcH (updH σ h h0 h') fun H => fcW (ren (sig σ h.length) v) fun v => K (.panic v) H)
    (hf : Fits (sig σ h.length) h σ h0) (ha : renL (sig σ h.length) a0 = args)
    (hap : apartB σ h0 = true := by rfl) (ho : ownB h0 h' = true := by rfl) : CallP P f args h K :=
  CallP.frame hc σ hf (apartB_ok hap) ha fun ce h'' hk' => by
    obtain ⟨rfl, rfl⟩ := hk'
    rw [fcH_eq, fcW_eq] at hk
    exact ⟨ownB_ok ho, hk⟩
theorem YieldP.use {P : Program} {i i0 : Nat} {a0 args : List SV} {h0 h' h : SHeap} {v : SV} {K : CE → SHeap → Prop} (hc : YieldP P i0 a0 h0 (Ret v h')) (σ : List Nat)
    (hk : fcH (updH σ h h0 h') fun H => fcW (ren (sig σ h.length) v) fun v => K (.ret v) H)
    (hf : Fits (sig σ h.length) h σ h0) (ha : renL (sig σ h.length) a0 = args)
    (hi : sig σ h.length i0 = i := by rfl) (hap : apartB σ h0 = true := by rfl) (ho : ownB h0 h' = true := by rfl) : YieldP P i args h K :=
  YieldP.frame hc σ hf (apartB_ok hap) ha hi fun ce h'' hk' => by
    obtain ⟨rfl, rfl⟩ := hk'
    rw [fcH_eq, fcW_eq] at hk
    exact ⟨ownB_ok ho, hk⟩
end Go.Sy
/-
  Sy15: one symbolic state follows from another one; loops. No program is named.
-/
namespace Go.Sy

/-- Whatever is as s says is as t says as well. -/
def Ent (n : Nat) (s t : St) : Prop :=
  ∀ (η : Nam) (φ : Feet) (w0 : World) (Ef : Nat → Prop) (w : World) (a : Act), n ≤ s.H.length → Sat η φ s.H w0 Ef w → TRel η s.T a.tmps → DRel η s.D a.defers →
    ∃ η' φ', Pin n η η' ∧ n ≤ t.H.length ∧ Sat η' φ' t.H w0 Ef w ∧ TRel η' t.T a.tmps ∧ DRel η' t.D a.defers

def TmLe (F : Nat → Nat) : Tm → Tm → Prop
  | [], [] => True
  | _ :: xs, none :: ys => TmLe F xs ys
  | some (g, v) :: xs, some (g', v') :: ys => g = g' ∧ v = ren F v' ∧ TmLe F xs ys
  | _, _ => False
theorem TmLe.get {F : Nat → Nat} : ∀ {S T : Tm}, TmLe F S T → S.length = T.length ∧ ∀ (k : Nat) (g : Option Bool) (v : SV), T[k]? = some (some (g, v)) → S[k]? = some (some (g, ren F v))
  | [], [], _ => ⟨rfl, fun k g v h => by simp at h⟩
  | [], none :: _, h => h.elim
  | [], some _ :: _, h => h.elim
  | _ :: _, [], h => h.elim
  | none :: _, some (_, _) :: _, h => h.elim
  | x :: xs, none :: ys, h => by
    have h : TmLe F xs ys := by cases x <;> exact h
    obtain ⟨e, hg⟩ := TmLe.get h
    refine ⟨by simp [e], fun k g v hk => ?_⟩
    cases k with
    | zero => simp at hk
    | succ k => simpa using hg k g v (by simpa using hk)
  | some (g, v) :: xs, some (g', v') :: ys, h => by
    obtain ⟨rfl, rfl, h⟩ := h
    obtain ⟨e, hg⟩ := TmLe.get h
    refine ⟨by simp [e], fun k g v hk => ?_⟩
    cases k with
    | zero => simp at hk; obtain ⟨rfl, rfl⟩ := hk; simp
    | succ k => simpa using hg k g v (by simpa using hk)

/-- The first n names stay. -/
def fixB (n : Nat) (τ : List Nat) : Bool := go n 0 τ
where
  go : Nat → Nat → List Nat → Bool
    | 0, _, _ => true
    | n + 1, i, j :: τ => Nat.beq i j && go n (i + 1) τ
    | _ + 1, _, [] => false
theorem fixB_go : ∀ {n i : Nat} {τ : List Nat}, fixB.go n i τ = true → n ≤ τ.length ∧ ∀ k, k < n → τ[k]? = some (i + k)
  | 0, _, _, _ => ⟨Nat.zero_le _, fun k h => by omega⟩
  | n + 1, i, [], h => by simp [fixB.go] at h
  | n + 1, i, j :: τ, h => by
    simp only [fixB.go, Bool.and_eq_true, Nat.beq_eq] at h
    obtain ⟨rfl, h2⟩ := h
    obtain ⟨g1, g2⟩ := fixB_go h2
    refine ⟨by simp; omega, fun k hk => ?_⟩
    cases k with
    | zero => simp
    | succ k => rw [List.getElem?_cons_succ, g2 k (by omega)]; congr 1; omega
theorem fixB_ok {n : Nat} {τ : List Nat} (h : fixB n τ = true) : n ≤ τ.length ∧ ∀ k, k < n → τ[k]? = some k := by
  obtain ⟨h1, h2⟩ := fixB_go h
  exact ⟨h1, fun k hk => by simpa using h2 k hk⟩

/-- No names behind the list. -/
def sel (τ : List Nat) (m : Nat) (i : Nat) : Nat :=
  match τ[i]? with
  | some j => j
  | none => m

theorem ent_of {n : Nat} {s t : St} (τ : List Nat) (hf : Fits (sel τ s.H.length) s.H τ t.H) (ht : TmLe (sel τ s.H.length) s.T t.T) (hD : s.D = renL (sel τ s.H.length) t.D)
    (hap : apartB τ t.H = true) (hfx : fixB n τ = true) : Ent n s t := by
  intro η φ w0 Ef w a hn hs hT hDr
  obtain ⟨hlen, hget⟩ := hf.get
  have hap := apartB_ok hap
  obtain ⟨hfx1, hfx2⟩ := fixB_ok hfx
  let F := sel τ s.H.length
  have hFe : ∀ i j, τ[i]? = some j → F i = j := fun i j e => by show sel τ _ i = j; simp [sel, e]
  have hηnone : ∀ j, s.H.length ≤ j → η j = none := fun j hj => by
    cases e : η j with
    | none => rfl
    | some a =>
      obtain ⟨o, ho⟩ := hs.dom j a e
      have := lt_of_get ho
      omega
  have hent : ∀ i o0, t.H[i]? = some (some o0) → ∃ o, s.H[F i]? = some (some o) ∧ ObjLe F o o0 ∧ τ[i]? = some (F i) := fun i o0 e => by
    obtain ⟨j, o0', o, e1, e2, e3, e4⟩ := hget i (lt_of_get e)
    rw [e] at e2; cases e2
    rw [hFe i j e1]
    exact ⟨o, e3, e4, e1⟩
  have hle : ∀ sv v, den η (ren F sv) = some v → den (fun i => η (F i)) sv = some v := fun sv v h => by rwa [den_ren] at h
  refine ⟨fun i => η (F i), fun i => φ (F i), fun i hi => ?_, by omega, ?_, ?_, ?_⟩
  · show η (F i) = η i
    rw [hFe i i (hfx2 i hi)]
  · exact
    { size := hs.size
      env := hs.env
      keep := hs.keep
      dom := fun i a e => by
        by_cases hi : i < t.H.length
        · obtain ⟨j, o0, o, e1, e2, e3, e4⟩ := hget i hi
          exact ⟨o0, e2⟩
        · have : F i = s.H.length := by
            show sel τ _ i = _
            simp [sel, List.getElem?_eq_none (by omega : τ.length ≤ i)]
          rw [this, hηnone _ (Nat.le_refl _)] at e; cases e
      named := fun i o0 e => by
        obtain ⟨o, e5, e6, _⟩ := hent i o0 e
        exact hs.named _ o e5
      holds := fun i o0 a e ea => by
        obtain ⟨o, e5, e6, _⟩ := hent i o0 e
        exact e6.holds (hs.holds _ o a e5 ea)
      bnd := fun i o0 a b e ea eb => by
        obtain ⟨o, e5, e6, _⟩ := hent i o0 e
        exact hs.bnd _ o a b e5 ea (e6.foot a _ b eb)
      own := fun i o0 a b e ea er eb => by
        obtain ⟨o, e5, e6, _⟩ := hent i o0 e
        exact hs.own _ o a b e5 ea (e6.rw er) (e6.foot a _ b eb)
      sep := fun i k oi ok ai ak b hik ei ek eai eak er eb ebk => by
        obtain ⟨o, e5, e6, e7⟩ := hent i oi ei
        obtain ⟨o', e5', e6', e7'⟩ := hent k ok ek
        exact hs.sep _ _ o o' ai ak b (hap.ne hik e7 e7' (by simp [rwAt, ei, er])) e5 e5' eai eak (e6.rw er) (e6.foot _ _ b eb) (e6'.foot _ _ b ebk) }
  · obtain ⟨hl, hg⟩ := ht.get
    refine ⟨by rw [hT.1, hl], fun k g v hk => ?_⟩
    have := hT.2 k g _ (hg k g v hk)
    refine ⟨fun h => ?_, this.2⟩
    obtain ⟨u, h1, h2⟩ := this.1 h
    exact ⟨u, hle _ _ h1, h2⟩
  · have key : ∀ (D : List SV) (ds : List Deferred), DRel η (renL F D) ds → DRel (fun i => η (F i)) D ds := by
      intro D
      induction D with
      | nil => intro ds h; exact h
      | cons x xs ih =>
        intro ds h
        unfold DRel at h ⊢
        simp only [renL, List.mapM_cons, Option.bind_eq_bind, Option.bind_eq_some_iff, Option.pure_def, Option.some.injEq] at h ⊢
        obtain ⟨d, h1, ds', h2, h3⟩ := h
        refine ⟨d, ?_, ds', ih _ h2, h3⟩
        cases x <;> simp only [ren, denD, reduceCtorEq] at h1 ⊢
        case fn => simpa only [denL_ren] using h1
        case yld => exact h1
    rw [hD] at hDr
    exact key _ _ hDr

theorem CodeP.ent {P : Program} {r : Option Nat} {n : Nat} {c : Code} {s t : St} {K : SE → St → Prop} (he : Ent n s t) (hc : CodeP P r n c t K) : CodeP P r n c s K := by
  intro η0 η φ w0 Ef w a h1 h2 h3 h4 h5
  obtain ⟨η', φ', p1, p2, p3, p4, p5⟩ := he η φ w0 Ef w a h2 h3 h4 h5
  exact hc η0 η' φ' w0 Ef w a (fun i hi => (p1 i hi).trans (h1 i hi)) p2 p3 p4 p5

/-- A loop: round g begins as I g says; each round ends in a lesser one, or ends the loop. -/
theorem codeP_loop {P : Program} {r : Option Nat} {n : Nat} {c : Code} {s : St} {K : SE → St → Prop} {γ : Type} (I : γ → St) (p : γ → Prop) (μ : γ → Nat) (g0 : γ) (h0 : p g0) (he : Ent n s (I g0))
    (round : ∀ g, p g → CodeP P r n c (I g) fun se s' => match se with
      | .normal => ∃ g', p g' ∧ μ g' < μ g ∧ Ent n s' (I g')
      | se => K se s') : CodeP P r n (.loop c) s K := by
  refine CodeP.ent he ?_
  intro η0 η φ w0 Ef w a h1 h2 h3 h4 h5
  let J : Nat → Act → World → Prop := fun m a w => ∃ g η φ, p g ∧ μ g = m ∧ Pin n η0 η ∧ n ≤ (I g).H.length ∧ Sat η φ (I g).H w0 Ef w ∧ TRel η (I g).T a.tmps ∧ DRel η (I g).D a.defers
  classical
  have key : ∀ a w, (∃ m, J m a w) → ∃ m, J m a w ∧ ∀ m', J m' a w → m ≤ m' := fun a w ⟨m, hm⟩ => by
    induction m using Nat.strongRecOn with
    | _ m ih =>
      by_cases hx : ∃ m', m' < m ∧ J m' a w
      · obtain ⟨m', h1, h2⟩ := hx; exact ih m' h1 h2
      · exact ⟨m, hm, fun m' hm' => Nat.le_of_not_lt fun hlt => hx ⟨m', hlt, hm'⟩⟩
  let μ' : Act → World → Nat := fun a w => if hx : ∃ m, J m a w then (key a w hx).choose else 0
  have hμ : ∀ a w (hx : ∃ m, J m a w), J (μ' a w) a w ∧ ∀ m', J m' a w → μ' a w ≤ m' := fun a w hx => by
    show J (if hx : ∃ m, J m a w then _ else 0) a w ∧ ∀ m', J m' a w → (if hx : ∃ m, J m a w then _ else 0) ≤ m'
    rw [dif_pos hx]
    exact (key a w hx).choose_spec
  refine wpIn_loop (fun a w => ∃ m, J m a w) μ' ⟨_, g0, η, φ, h0, rfl, h1, h2, h3, h4, h5⟩ ?_
  intro a w hx
  obtain ⟨⟨g, η, φ, hp, hm, q1, q2, q3, q4, q5⟩, hmin⟩ := hμ a w hx
  refine wpIn_mono (round g hp η0 η φ w0 Ef w a q1 q2 q3 q4 q5) ?_
  rintro e a' w' ⟨se, s', η', φ', k, p1, p2, pe, p3, p4, p5⟩
  cases se with
  | normal =>
    have pe : e = .normal := pe
    subst pe
    obtain ⟨g', hp', hlt, hent⟩ := k
    obtain ⟨η'', φ'', r1, r2, r3, r4, r5⟩ := hent η' φ' w0 Ef w' a' p2 p3 p4 p5
    have hJ : J (μ g') a' w' := ⟨g', η'', φ'', hp', rfl, fun i hi => (r1 i hi).trans (p1 i hi), r2, r3, r4, r5⟩
    refine ⟨⟨_, hJ⟩, ?_⟩
    have := (hμ a' w' ⟨_, hJ⟩).2 _ hJ
    omega
  | exit i => have pe : e = .exit i := pe; subst pe; exact ⟨_, s', η', φ', k, p1, p2, rfl, p3, p4, p5⟩
  | goto i => have pe : e = .goto i := pe; subst pe; exact ⟨_, s', η', φ', k, p1, p2, rfl, p3, p4, p5⟩
  | ret => have pe : e = .ret := pe; subst pe; exact ⟨_, s', η', φ', k, p1, p2, rfl, p3, p4, p5⟩
  | panic v => obtain ⟨u, hu, rfl⟩ := pe; exact ⟨_, s', η', φ', k, p1, p2, ⟨u, hu, rfl⟩, p3, p4, p5⟩
end Go.Sy
