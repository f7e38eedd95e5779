/-
  Parts: Sy19, Sy20, Sy22, Sy23, Sy24, Sy25, Sy26.
-/
import Derived.Test.YtgofhjihkinknaaN9
import Derived.RangeFuncRecord
import Derived.Recover
set_option linter.unusedVariables false
/-
  Sy19: regions that draw their order, by a plan: which operations are taken first, and which may come up. No program is named.
-/
namespace Go.Sy

inductive Plan where
  | done
  | eager (i : Nat) (p : Plan)
  | alt (i : Nat) (p q : Plan)
  | no

def chk (ops : Array Oper) : Plan → Nat → Array Bool → Option (List Nat) → Bool
  | .done, _, l, none => (Region.ready .any ops l).isEmpty
  | .eager i p, f + 1, l, none => (Region.ready .any ops l).contains i && Region.free .any ops l i && chk ops p f (l.setIfInBounds i true) none
  | .alt i p q, f + 1, l, none => match Region.ready .any ops l with
    | j :: rem => Nat.beq i j && chk ops p f (l.setIfInBounds i true) none && chk ops q (f + 1) l (some rem)
    | [] => false
  | .alt i p q, f + 1, l, some (j :: rem) => Nat.beq i j && chk ops p f (l.setIfInBounds i true) none && chk ops q (f + 1) l (some rem)
  | .no, _, _, some [] => true
  | _, _, _, _ => false
def checkPlan (ops : Array Oper) (p : Plan) : Bool := Region.noSelect ops && chk ops p ops.size (Array.replicate ops.size false) none

def eagerOp (E : Env) (ops : List Oper) (o : Oper) (T : Tm) (Hm : SHeap) : Option (Option Bool × SV × List Prop) :=
  match guardOf ops o T with
  | none => none
  | some G => match pickOf o.op with
    | some (c, a, b) => match ldG T Hm c, ldG T Hm a, ldG T Hm b with
      | some (gc, .bool cv), some (ga, av), some (gb, bv) => some (G, selV cv av bv, [under G (gc.getD true = true), under G (cv = true → ga.getD true = true), under G (cv = false → gb.getD true = true)])
      | _, _, _ => none
    | none => match ev1 E o.op (ldv T Hm) (Hm ++ [none]) Hm.length with
      | some q => match q.wr, q.nw with
        | none, none => some (G, q.v, gObs G T Hm o.op.operands.toList ++ q.ob.map (under G))
        | _, _ => none
      | none => none

theorem eager_ok {E : Env} {P : Program} (hE : E.ok P) {ops : List Oper} {o : Oper} {T : Tm} {Hm : SHeap} {G : Option Bool} {v : SV} {obs : List Prop} (h : eagerOp E ops o T Hm = some (G, v, obs)) (hob : ∀ p ∈ obs, p)
    {η : Nam} {a : Act} (hT : TRel η T a.tmps) {S : World → Prop} (hS : ∀ w, S w → ∃ φ w0 Ef, Sat η φ Hm w0 Ef w) (hex : ∃ w, S w) (r : Option Nat) :
    ∃ u, (G.getD true = true → den η v = some u) ∧ (G.getD true = false → u = undef) ∧ YieldsS r P ops.toArray S o u a := by
  unfold eagerOp at h
  split at h
  · cases h
  · rename_i G' hG
    have hw := guardOf_ok hG hT
    split at h
    · rename_i c x y hp
      have ho : o.op = .pick c x y := by
        unfold pickOf at hp
        split at hp
        · rename_i _ _ _ e
          simp only [Option.some.injEq, Prod.mk.injEq] at hp
          obtain ⟨rfl, rfl, rfl⟩ := hp
          exact e
        · cases hp
      split at h
      · rename_i gc cv ga av gb bv hc hx hy
        simp only [Option.some.injEq, Prod.mk.injEq] at h
        obtain ⟨rfl, rfl, rfl⟩ := h
        have h1 := hob (under _ _) (List.mem_cons_self ..)
        have h2 := hob (under _ _) (List.mem_cons_of_mem _ (List.mem_cons_self ..))
        have h3 := hob (under _ _) (List.mem_cons_of_mem _ (List.mem_cons_of_mem _ (List.mem_cons_self ..)))
        cases hg : G'.getD true with
        | false => exact ⟨undef, fun h => (by cases h), fun _ => rfl, .inr ⟨by rw [hw, hg], rfl⟩⟩
        | true =>
          obtain ⟨w, hSw⟩ := hex
          obtain ⟨φ, w0, Ef, hs⟩ := hS w hSw
          have hdc := ldG_ok hs hT hc (under_ok h1 hg)
          simp only [den, Option.some.injEq] at hdc
          refine ⟨if cv then a.eval x else a.eval y, fun _ => selV_ok (fun hcv => ?_) (fun hcv => ?_), fun h => (by cases h), .inl ⟨by rw [hw, hg], fun w' _ => ?_⟩⟩
          · rw [if_pos hcv]; exact ldG_ok hs hT hx (under_ok h2 hg hcv)
          · rw [if_neg (by simp [hcv])]; exact ldG_ok hs hT hy (under_ok h3 hg hcv)
          · rw [Oper.semAt_eq _ _ _ (fun c' e => by rw [ho] at e; cases e)]
            simp only [execOp, ho, ← hdc, asBool, Sem.run_bind, Sem.run_pure, Result.andThen_ok]
      · cases h
    · split at h
      · rename_i q hq
        split at h
        · rename_i hwr hnw
          simp only [Option.some.injEq, Prod.mk.injEq] at h
          obtain ⟨rfl, rfl, rfl⟩ := h
          cases hg : G'.getD true with
          | false => exact ⟨undef, fun h => (by cases h), fun _ => rfl, .inr ⟨by rw [hw, hg], rfl⟩⟩
          | true =>
            have hsem : o.semAt r a.eval = execOp a.eval o := Oper.semAt_eq _ _ _ (fun c e => by rw [e] at hq; simp [ev1] at hq)
            have h1 : ∀ p ∈ gObs G' T Hm o.op.operands.toList, p := fun p hp => hob p (List.mem_append_left _ hp)
            have h2 : ∀ p ∈ q.ob, p := fun p hp => under_ok (hob (under _ p) (List.mem_append_right _ (List.mem_map.2 ⟨p, hp, rfl⟩))) hg
            have step : ∀ w, S w → ∃ u, (execOp a.eval o).run P w = .ok (.value u) w ∧ den η q.v = some u := fun w hSw => by
              obtain ⟨φ, w0, Ef, hs⟩ := hS w hSw
              have hs1 := hs.room 1
              have hn1 : (Hm ++ List.replicate 1 none)[Hm.length]? = some none := by simp
              obtain ⟨nx, u, w', η', hrun, _, _, _, _, _, hx⟩ := ev1_ok hE hq h2 hs1 hn1 (fun x hx sv hv => by
                obtain ⟨g, hgv⟩ := ldv_ok hv
                exact ldG_ok hs hT hgv (gObs_ok h1 hg x hx g sv hgv))
              obtain ⟨rfl, rfl, hd⟩ := hx hwr hnw
              exact ⟨u, hrun, hd⟩
            obtain ⟨w, hSw⟩ := hex
            obtain ⟨u, _, hd⟩ := step w hSw
            refine ⟨u, fun _ => hd, fun h => (by cases h), .inl ⟨by rw [hw, hg], fun w' hSw' => ?_⟩⟩
            obtain ⟨u', hr', hd'⟩ := step w' hSw'
            rw [hd] at hd'; cases hd'
            rw [hsem]; exact hr'
        · cases h
      · cases h

def planX (E : Env) (P : Program) (r : Option Nat) (h1 : SHeap) (ops : List Oper) : Plan → St → List Prop → KS → Prop
  | .done, s, ob, K => K .normal s ob
  | .no, _, _, _ => True
  | .eager i p, s, ob, K => match ops[i]? with
    | some o => match eagerOp E ops o s.T (maskH s.H) with
      | some (G, v, obs) => fcV v fun v => fcL (putT s.T o.dst (some (G, v))) fun T' => fcP (obs ++ ob) fun ob => whL s.H fun H => whL s.D fun D => planX E P r h1 ops p ⟨T', H, D⟩ ob K
      | none => False
    | none => False
  | .alt i p q, s, ob, K => match ops[i]? with
    | some o => evOp E P r ops o s ob (seqK (fun s' ob => match roB h1 s'.H with
      | true => whL s'.T fun T => whL s'.H fun H => whL s'.D fun D => planX E P r h1 ops p ⟨T, H, D⟩ ob K
      | false => False) K) ∧ planX E P r h1 ops q s ob K
    | none => False

theorem putT_length (T : Tm) (d : Option Nat) (e : Slot) : (putT T d e).length = T.length := by cases d <;> simp [putT]

theorem planX_owed {E : Env} {P : Program} {r : Option Nat} {h1 : SHeap} {ops : List Oper} {K : KS} (hK : Good K) : ∀ (p : Plan) (s : St) (ob : List Prop) (f : Nat) (l : Array Bool) (opsA : Array Oper), chk opsA p f l none = true → planX E P r h1 ops p s ob K → AllP ob
  | .done, s, ob, _, _, _, _, h => hK _ _ _ h
  | .no, s, ob, f, l, opsA, hc, h => by simp [chk] at hc
  | .eager i p, s, ob, f, l, opsA, hc, h => by
    cases f with
    | zero => simp [chk] at hc
    | succ f =>
      simp only [chk, Bool.and_eq_true] at hc
      simp only [planX] at h
      split at h
      · split at h
        · rw [fcV_eq, fcL_eq, fcP_eq, whL_eq, whL_eq] at h
          exact AllP_app (planX_owed hK p _ _ _ _ _ hc.2 h)
        · exact h.elim
      · exact h.elim
  | .alt i p q, s, ob, f, l, opsA, hc, h => by
    cases f with
    | zero => simp [chk] at hc
    | succ f =>
      have hc' : chk opsA p f (l.setIfInBounds i true) none = true := by
        simp only [chk] at hc
        split at hc
        · simp only [Bool.and_eq_true] at hc; exact hc.1.2
        · cases hc
      simp only [planX] at h
      split at h
      · refine evOp_owed (fun se s ob hk => ?_) h.1
        cases se with
        | normal =>
          simp only [seqK] at hk
          split at hk
          · rw [whL_eq, whL_eq, whL_eq] at hk; exact planX_owed hK p _ _ _ _ _ hc' hk
          · exact hk.elim
        | _ => exact hK _ _ _ hk
      · exact h.elim

/-- What the operations write is forgotten. -/
def clr : List Oper → Tm → Tm
  | [], T => T
  | o :: os, T => clr os (putT T o.dst none)
theorem clr_length : ∀ {ops : List Oper} {T : Tm}, (clr ops T).length = T.length
  | [], _ => rfl
  | o :: os, T => by rw [clr, clr_length, putT_length]
theorem clr_get : ∀ {ops : List Oper} {T : Tm} {k : Nat} {x : Option Bool × SV}, (clr ops T)[k]? = some (some x) → T[k]? = some (some x) ∧ ∀ o ∈ ops, o.dst ≠ some k
  | [], T, k, x, h => ⟨h, fun o ho => by simp at ho⟩
  | o :: os, T, k, x, h => by
    obtain ⟨h1, h2⟩ := clr_get (ops := os) h
    cases hd : o.dst with
    | none =>
      rw [hd] at h1
      refine ⟨h1, fun o' ho' => ?_⟩
      rcases List.mem_cons.1 ho' with rfl | ho'
      · rw [hd]; simp
      · exact h2 o' ho'
    | some d =>
      rw [hd] at h1
      simp only [putT, List.getElem?_set] at h1
      split at h1
      · split at h1 <;> simp at h1
      · rename_i hdk
        refine ⟨h1, fun o' ho' => ?_⟩
        rcases List.mem_cons.1 ho' with rfl | ho'
        · rw [hd]; simpa using hdk
        · exact h2 o' ho'
theorem TRel.clr {η : Nam} {ops : List Oper} {T : Tm} {tmps : Array Value} (h : TRel η T tmps) : TRel η (clr ops T) tmps :=
  ⟨by rw [clr_length]; exact h.1, fun k g sv hk => h.2 k g sv (clr_get hk).1⟩
theorem TRel.unput {η : Nam} {ops : List Oper} {o : Oper} (ho : o ∈ ops) {T : Tm} {a : Act} {v : Value} (h : TRel η (Go.Sy.clr ops T) (a.put o.dst v).tmps) : TRel η (Go.Sy.clr ops T) a.tmps := by
  cases hd : o.dst with
  | none => rw [hd] at h; exact h
  | some d =>
    rw [hd] at h
    refine ⟨by rw [← h.1]; simp [Act.put], fun k g sv hk => ?_⟩
    have hne : d ≠ k := fun e => (clr_get hk).2 o ho (by rw [hd, e])
    have := h.2 k g sv hk
    simpa only [Act.put, Array.getElem?_setIfInBounds_ne hne] using this

/-- What the region's end must be like: behind a panic no temporary is known. -/
def QD (ops : List Oper) (L : Nat) (η1 : Nam) (w1 : World) (Ef1 : Nat → Prop) (K : KS) (e : Exit) (a : Act) (w : World) : Prop :=
  match e with
  | .normal => ∃ s ob η φ, K .normal s ob ∧ Rel L η1 w1 Ef1 s η φ a w
  | .panic c => ∃ v u s ob η φ, K (.panic v) s ob ∧ den η v = some u ∧ c = [{ v := u, recovered := false }] ∧ Pin L η1 η ∧ L ≤ s.H.length ∧ Sat η φ s.H w1 Ef1 w ∧ TRel η (clr ops s.T) a.tmps ∧ DRel η s.D a.defers
  | _ => False

section
variable {E : Env} {P : Program} {r : Option Nat} {h1 : SHeap} {ops : List Oper} {K : KS} {η1 : Nam} {w1 : World} {Ef1 : Nat → Prop}

theorem planX_ok (hE : E.ok P) (hK : Good K) (hst : Still η1 h1 w1 Ef1) (hsel : Region.noSelect ops.toArray = true) : ∀ (p : Plan) (s : St) (ob : List Prop) (f : Nat) (l : Array Bool) (η : Nam) (φ : Feet) (a : Act) (w : World),
    planX E P r h1 ops p s ob K → Rel h1.length η1 w1 Ef1 s η φ a w → roB h1 s.H = true →
    (chk ops.toArray p f l none = true → wpAnyS (Fw r) 0 P .any ops.toArray (QD ops h1.length η1 w1 Ef1 K) (SameOld w1 Ef1) f l a w) ∧
    ∀ rem, chk ops.toArray p (f + 1) l (some rem) = true → ∀ i ∈ rem, wpOpIn (Fw r) 0 P ops.toArray (QD ops h1.length η1 w1 Ef1 K) i (fun a' w' => SameOld w1 Ef1 w' ∧ wpAnyS (Fw r) 0 P .any ops.toArray (QD ops h1.length η1 w1 Ef1 K) (SameOld w1 Ef1) f (l.setIfInBounds i true) a' w') a w
  | .done, s, ob, f, l, η, φ, a, w, h, hr, hro => by
    refine ⟨fun hc => ?_, fun rem hc => by simp [chk] at hc⟩
    simp only [chk, List.isEmpty_iff] at hc
    have hq : QD ops h1.length η1 w1 Ef1 K .normal a w := ⟨s, ob, η, φ, h, hr⟩
    cases f with
    | zero => exact ⟨hc, hq⟩
    | succ f => exact ⟨fun _ => hq, by rw [hc]; simp⟩
  | .no, s, ob, f, l, η, φ, a, w, h, hr, hro => by
    refine ⟨fun hc => by simp [chk] at hc, fun rem hc => ?_⟩
    cases rem with
    | nil => simp
    | cons j rem => simp [chk] at hc
  | .eager i p, s, ob, f, l, η, φ, a, w, h, hr, hro => by
    refine ⟨fun hc => ?_, fun rem hc => by simp [chk] at hc⟩
    cases f with
    | zero => simp [chk] at hc
    | succ f =>
      simp only [chk, Bool.and_eq_true] at hc
      obtain ⟨⟨hc1, hc2⟩, hc3⟩ := hc
      simp only [planX] at h
      split at h
      · rename_i o ho
        split at h
        · rename_i G v obs he
          rw [fcV_eq, fcL_eq, fcP_eq, whL_eq, whL_eq] at h
          have hob := AllP_iff.1 (planX_owed hK p _ _ _ _ _ hc3 h)
          have hS : SameOld w1 Ef1 w := ⟨hr.sat.size, hr.sat.keep, hr.sat.env⟩
          obtain ⟨u, hu1, hu2, hy⟩ := eager_ok (P := P) hE he (fun p hp => hob p (List.mem_append_left _ hp)) hr.tmps (S := SameOld w1 Ef1)
            (fun w' hw' => ⟨φ, w1, Ef1, hr.sat.mask (still_of hst hr.pin hro) hw'⟩) ⟨w, hS⟩ r
          refine wpAnyS_first (F := Fw r) (fun _ => trivial) (i := i) (oi := o) (by simpa using ho) (Region.noSelect_spec hsel) ?_ f l a w (Region.free_spec (by simpa using ho) hc2) (by simpa using hc1) hy hS ?_
          · rintro c a' w' ⟨v, u, s, ob, η, φ, k1, k2, k3, k4, k5, k6, k7, k8⟩
            exact ⟨v, u, s, ob, η, φ, k1, k2, k3, k4, k5, k6, k7.unput (List.mem_of_getElem? ho), by rwa [Act.put_defers'] at k8⟩
          · exact (planX_ok hE hK hst hsel p _ _ f _ η φ _ w h ⟨hr.pin, hr.len, hr.sat, TRel.put hr.tmps _ hu1 hu2, by rw [Act.put_defers']; exact hr.defers⟩ hro).1 hc3
        · exact h.elim
      · exact h.elim
  | .alt i p q, s, ob, f, l, η, φ, a, w, h, hr, hro => by
    have main : ∀ f, chk ops.toArray p f (l.setIfInBounds i true) none = true → wpOpIn (Fw r) 0 P ops.toArray (QD ops h1.length η1 w1 Ef1 K) i (fun a' w' => SameOld w1 Ef1 w' ∧ wpAnyS (Fw r) 0 P .any ops.toArray (QD ops h1.length η1 w1 Ef1 K) (SameOld w1 Ef1) f (l.setIfInBounds i true) a' w') a w := fun f hc => by
      simp only [planX] at h
      split at h
      · rename_i o ho
        refine evOp_ok (n := h1.length) (η0 := η1) (w0 := w1) (Ef := Ef1) hE (fun se s ob hk => ?_) ⟨fun s' ob' η' φ' a' w' hk hr' => ?_, fun v s' ob' η' φ' a' w' u hk hr' hu => ?_⟩ ho h.1 hr
        · cases se with
          | normal =>
            simp only [seqK] at hk
            split at hk
            · rw [whL_eq, whL_eq, whL_eq] at hk; exact planX_owed hK p _ _ _ _ _ hc hk
            · exact hk.elim
          | _ => exact hK _ _ _ hk
        · simp only [seqK] at hk
          split at hk
          · rename_i hro'
            rw [whL_eq, whL_eq, whL_eq] at hk
            exact ⟨⟨hr'.sat.size, hr'.sat.keep, hr'.sat.env⟩, (planX_ok hE hK hst hsel p _ _ f _ η' φ' a' w' hk hr' hro').1 hc⟩
          · exact hk.elim
        · exact ⟨v, u, s', ob', η', φ', hk, hu, rfl, hr'.pin, hr'.len, hr'.sat, hr'.tmps.clr, hr'.defers⟩
      · exact h.elim
    have hq : planX E P r h1 ops q s ob K := by
      simp only [planX] at h
      split at h
      · exact h.2
      · exact h.elim
    have rest := fun f => planX_ok hE hK hst hsel q s ob f l η φ a w hq hr hro
    constructor
    · intro hc
      cases f with
      | zero => simp [chk] at hc
      | succ f =>
        simp only [chk] at hc
        split at hc
        · rename_i j rem hrd
          simp only [Bool.and_eq_true, Nat.beq_eq] at hc
          obtain ⟨⟨rfl, hc1⟩, hc2⟩ := hc
          refine ⟨fun he => (by rw [hrd] at he; cases he), fun k hk => ?_⟩
          rw [hrd] at hk
          rcases List.mem_cons.1 hk with rfl | hk
          · exact main f hc1
          · exact (rest f).2 rem hc2 k hk
        · cases hc
    · intro rem hc
      cases rem with
      | nil => simp [chk] at hc
      | cons j rem =>
        simp only [chk, Bool.and_eq_true, Nat.beq_eq] at hc
        obtain ⟨⟨rfl, hc1⟩, hc2⟩ := hc
        intro k hk
        rcases List.mem_cons.1 hk with rfl | hk
        · exact main f hc1
        · exact (rest f).2 rem hc2 k hk
end

theorem Oper.wpIn_monoQ {F : Fence} {n : Nat} {P : Program} {Q Q' : Exit → Act → World → Prop} (hQ : ∀ e a w, Q e a w → Q' e a w) {o : Oper} {a : Act} {w : World} {K K' : Act → World → Prop} (h : ∀ a w, K a w → K' a w)
    (hh : o.wpIn F n P a w K Q) : o.wpIn F n P a w K' Q' := by
  unfold Oper.wpIn at *
  refine ⟨hh.1, ?_⟩
  have hh := hh.2
  generalize (o.semAt F.round a.eval).run P w = r at *
  cases r with
  | ok x w' =>
    cases x <;> simp only [Oper.uponIn] at hh ⊢ <;>
      first
        | exact h _ _ hh
        | exact ⟨hh.1, CallsIn.mono hh.2 (fun e w'' he => by cases e <;> first | exact h _ _ he | exact hQ _ _ _ he | exact (let ⟨a, w, hx⟩ := he; ⟨a, w, hQ _ _ _ hx⟩))⟩
        | exact ⟨hh.1, RowsIn.mono hh.2 (fun _ _ he => h _ _ he)⟩
        | exact ⟨hh.1, RoundIn.mono hh.2 (fun e w'' he => by cases e <;> first | exact h _ _ he | exact hQ _ _ _ he | exact (let ⟨a, w, hx⟩ := he; ⟨a, w, hQ _ _ _ hx⟩))⟩
  | halt x w' => cases x <;> simp only [Oper.uponIn] at hh ⊢ <;> first | exact hQ _ _ _ hh | exact hh
theorem wpOpIn_monoQ {F : Fence} {n : Nat} {P : Program} {ops : Array Oper} {Q Q' : Exit → Act → World → Prop} (hQ : ∀ e a w, Q e a w → Q' e a w) {i : Nat} {a : Act} {w : World} {K K' : Act → World → Prop} (h : ∀ a w, K a w → K' a w)
    (hh : wpOpIn F n P ops Q i K a w) : wpOpIn F n P ops Q' i K' a w := by
  unfold wpOpIn at *
  split
  · exact h _ _ (by simpa [*] using hh)
  · rename_i o ho
    simp only [ho] at hh
    split
    · rename_i hw; simp only [hw, if_true] at hh; exact Oper.wpIn_monoQ hQ h hh
    · rename_i hw; simp only [hw] at hh; exact ⟨hh.1, h _ _ hh.2⟩
theorem roB_self : ∀ (h : SHeap), roB h h = true
  | [] => rfl
  | none :: h => by simp [roB, ownO, roB_self h]
  | some o :: h => by
    simp only [roB, Bool.and_eq_true]
    refine ⟨?_, roB_self h⟩
    cases o <;> first | rfl | (rename_i own _ _ _; cases own <;> rfl)
theorem wpAnyS_mono {F : Fence} {n : Nat} {P : Program} {md : Region.Mode} {ops : Array Oper} {Q Q' : Exit → Act → World → Prop} {S : World → Prop} (hQ : ∀ e a w, Q e a w → Q' e a w) :
    ∀ (f : Nat) (l : Array Bool) (a : Act) (w : World), wpAnyS F n P md ops Q S f l a w → wpAnyS F n P md ops Q' S f l a w
  | 0, _, _, _, h => ⟨h.1, hQ _ _ _ h.2⟩
  | f + 1, _, _, _, h => ⟨fun e => hQ _ _ _ (h.1 e), fun i hi => wpOpIn_monoQ hQ (fun a' w' h' => ⟨h'.1, wpAnyS_mono hQ f _ a' w' h'.2⟩) (h.2 i hi)⟩

theorem Sat.drawn {η : Nam} {φ : Feet} {h : SHeap} {w0 w : World} {Ef : Nat → Prop} (s : Sat η φ h w0 Ef w) (n : Nat) : Sat η φ h w0 Ef { w with drawn := n } := s.world rfl ⟨rfl, rfl⟩

/-- A region that draws its order. ks: the blocks that are locked; plan: what comes up when. -/
theorem drawP {E : Env} {P : Program} (hE : E.ok P) {r : Option Nat} {n id : Nat} {ops : Array Oper} {s : St} {K : SE → St → Prop} (ks : List Nat) (plan : Plan) (hc : checkPlan ops plan = true)
    (hx : fcSt ⟨s.T, lockH ks 0 s.H, s.D⟩ fun s1 => planX E P r s1.H ops.toList plan s1 [] fun se s' ob => match se with
      | .normal => fcP ob fun ob => AllP ob ∧ roB s1.H s'.H = true ∧ fcH (unlH s.H s1.H s'.H) fun H => K .normal ⟨s'.T, H, s'.D⟩
      | .panic v => fcP ob fun ob => AllP ob ∧ roB s1.H s'.H = true ∧ fcH (unlH s.H s1.H s'.H) fun H => fcL (clr ops.toList s'.T) fun T => K (.panic v) ⟨T, H, s'.D⟩
      | _ => False) : CodeP P r n (.region id ops true) s K := by
  rw [fcSt_eq] at hx
  unfold checkPlan at hc
  rw [Bool.and_eq_true] at hc
  intro η0 η φ w0 Ef w a q1 q2 q3 q4 q5
  refine wpIn_region_any hE.mixed ?_
  have q3 := q3.drawn (w.drawn + 1)
  generalize { w with drawn := w.drawn + 1 } = w at q3
  have hl := lockH_ok ks 0 s.H
  obtain ⟨hlen, _⟩ := hl.get
  obtain ⟨Ef1, hs1, hst, hEf⟩ := q3.lock hl
  refine wpAnyIn_of_S (S := SameOld w Ef1) _ _ _ _ ?_
  have hgood : Good (fun se s' ob => match se with
      | .normal => fcP ob fun ob => AllP ob ∧ roB (lockH ks 0 s.H) s'.H = true ∧ fcH (unlH s.H (lockH ks 0 s.H) s'.H) fun H => K .normal ⟨s'.T, H, s'.D⟩
      | .panic v => fcP ob fun ob => AllP ob ∧ roB (lockH ks 0 s.H) s'.H = true ∧ fcH (unlH s.H (lockH ks 0 s.H) s'.H) fun H => fcL (clr ops.toList s'.T) fun T => K (.panic v) ⟨T, H, s'.D⟩
      | _ => False : KS) := by
    intro se s' ob hk
    cases se with
    | normal => simp only [fcP_eq] at hk; exact hk.1
    | panic v => simp only [fcP_eq] at hk; exact hk.1
    | exit i => exact hk.elim
    | goto l => exact hk.elim
    | ret => exact hk.elim
  have hro : roB (lockH ks 0 s.H) (lockH ks 0 s.H) = true := roB_self _
  have key := (planX_ok (r := r) hE hgood hst (ops := ops.toList) (by simpa using hc.1) plan ⟨s.T, lockH ks 0 s.H, s.D⟩ [] ops.size (Array.replicate ops.size false) η φ a w hx ⟨Pin.refl _ _, Nat.le_refl _, hs1, q4, q5⟩ hro).1 (by simpa using hc.2)
  simp only [Array.toArray_toList] at key
  refine wpAnyS_mono ?_ _ _ _ _ key
  intro e a' w' hq
  cases e with
  | normal =>
    obtain ⟨s', ob, η', φ', k, hr⟩ := hq
    simp only [fcP_eq, fcH_eq] at k
    obtain ⟨_, hro', k⟩ := k
    have hp : Pin s.H.length η η' := fun i hi => hr.pin i (by omega)
    obtain ⟨φ'', hs'⟩ := q3.unlock hl hEf hp hr.sat (own_of hro')
    have := hr.len
    exact ⟨.normal, _, η', φ'', k, q1.trans hp q2, by show n ≤ (unlH _ _ _).length; rw [unlH_length]; omega, rfl, hs', hr.tmps, hr.defers⟩
  | panic c =>
    obtain ⟨v, u, s', ob, η', φ', k, hu, rfl, p1, p2, p3, p4, p5⟩ := hq
    simp only [fcP_eq, fcH_eq, fcL_eq] at k
    obtain ⟨_, hro', k⟩ := k
    have hp : Pin s.H.length η η' := fun i hi => p1 i (by omega)
    obtain ⟨φ'', hs'⟩ := q3.unlock hl hEf hp p3 (own_of hro')
    exact ⟨.panic v, _, η', φ'', k, q1.trans hp q2, by show n ≤ (unlH _ _ _).length; rw [unlH_length]; omega, ⟨u, hu, rfl⟩, hs', p4, p5⟩
  | exit i => exact hq.elim
  | goto l => exact hq.elim
  | ret => exact hq.elim
  | outgrown => exact hq.elim
end Go.Sy
/-
  Sy20: what a call leaves behind may be forgotten. No program is named.
-/
namespace Go.Sy

/-- What the call gave, and the heap then, are what is said of them. -/
def EntC (n : Nat) : CE → SHeap → CE → SHeap → Prop
  | .ret v, h1, .ret v', h2 => Ent n ⟨[some (none, v)], h1, []⟩ ⟨[some (none, v')], h2, []⟩
  | .panic v, h1, .panic v', h2 => Ent n ⟨[some (none, v)], h1, []⟩ ⟨[some (none, v')], h2, []⟩
  | _, _, _, _ => False

theorem CallG.ent {C : Nam → List Value → World → (Ending → World → Prop) → Prop} (hm : ∀ (η : Nam) (vs : List Value) (w : World) (R R' : Ending → World → Prop), (∀ e w', R e w' → R' e w') → C η vs w R → C η vs w R') {args : List SV} {h : SHeap} {K : CE → SHeap → Prop} (hc : CallG C args h fun ce h1 => ∃ ce' h2, K ce' h2 ∧ EntC h.length ce h1 ce' h2) : CallG C args h K := by
  intro η φ w0 Ef w vs hs hd
  refine hm η vs w _ _ ?_ (hc η φ w0 Ef w vs hs hd)
  rintro e w' ⟨ce, h1, η1, φ1, ⟨ce', h2, hk, he⟩, hl, hp, hcr, hs1⟩
  have main : ∀ v v' u, Ent h.length ⟨[some (none, v)], h1, []⟩ ⟨[some (none, v')], h2, []⟩ → den η1 v = some u → ∃ η2 φ2, h.length ≤ h2.length ∧ Pin h.length η η2 ∧ den η2 v' = some u ∧ Sat η2 φ2 h2 w0 Ef w' := fun v v' u he hu => by
    obtain ⟨η2, φ2, p1, p2, p3, p4, _⟩ := he η1 φ1 w0 Ef w' { tmps := #[u], defers := [] } hl hs1 ⟨rfl, fun k g sv hk => by
      cases k with
      | zero => simp at hk; obtain ⟨rfl, rfl⟩ := hk; exact ⟨fun _ => ⟨u, hu, rfl⟩, fun h => by cases h⟩
      | succ k => simp at hk⟩ rfl
    obtain ⟨u', h5, h6⟩ := (p4.2 0 none v' rfl).1 rfl
    simp at h6
    subst h6
    exact ⟨η2, φ2, p2, fun i hi => (p1 i hi).trans (hp i hi), h5, p3⟩
  cases ce with
  | ret v =>
    cases ce' with
    | panic v' => exact he.elim
    | ret v' =>
      obtain ⟨u, hu, rfl⟩ := hcr
      obtain ⟨η2, φ2, q1, q2, q3, q4⟩ := main v v' u he hu
      exact ⟨_, h2, η2, φ2, hk, q1, q2, ⟨u, q3, rfl⟩, q4⟩
  | panic v =>
    cases ce' with
    | ret v' => exact he.elim
    | panic v' =>
      obtain ⟨u, hu, rfl⟩ := hcr
      obtain ⟨η2, φ2, q1, q2, q3, q4⟩ := main v v' u he hu
      exact ⟨_, h2, η2, φ2, hk, q1, q2, ⟨u, q3, rfl⟩, q4⟩

theorem CallP.ent {P : Program} {f : FuncId} {args : List SV} {h : SHeap} {K : CE → SHeap → Prop} (hc : CallP P f args h fun ce h1 => ∃ ce' h2, K ce' h2 ∧ EntC h.length ce h1 ce' h2) : CallP P f args h K :=
  CallG.ent (C := fun _ vs w R => Calls P f vs.toArray w R) (fun _ _ _ _ _ hm h => h.mono hm) hc
theorem YieldP.ent {P : Program} {i : Nat} {args : List SV} {h : SHeap} {K : CE → SHeap → Prop} (hc : YieldP P i args h fun ce h1 => ∃ ce' h2, K ce' h2 ∧ EntC h.length ce h1 ce' h2) : YieldP P i args h K :=
  CallG.ent (C := yieldC P i) (fun _ _ _ _ _ hm h => yieldC.mono h hm) hc

/-- A function that returns just this value, in just this heap. -/
theorem callR {E : Env} {P : Program} (hE : E.ok P) {f : Nat} {fn : Func} {c : Code} {args : List SV} {h h2 : SHeap} {v' : SV} (hf : P.funcs[f]? = some fn) (hb : fn.body = some c)
    (hx : X E P none h.length c ⟨initT args fn.ntmps, h, []⟩ [] (retKS E fn.results.toList fun ce h1 => match ce with
      | .ret v => Ent h.length ⟨[some (none, v)], h1, []⟩ ⟨[some (none, v')], h2, []⟩
      | .panic _ => False)) : CallP P f args h (Ret v' h2) :=
  CallP.ent ((callP_enter hE hf hb hx).mono fun ce h1 hk => by
    cases ce with
    | ret v => exact ⟨.ret v', h2, ⟨rfl, rfl⟩, hk⟩
    | panic v => exact hk.elim)
/-- Any function. -/
theorem callK {E : Env} {P : Program} (hE : E.ok P) {f : Nat} {fn : Func} {c : Code} {args : List SV} {h : SHeap} {K : CE → SHeap → Prop} (hf : P.funcs[f]? = some fn) (hb : fn.body = some c)
    (hx : X E P none h.length c ⟨initT args fn.ntmps, h, []⟩ [] (retKS E fn.results.toList fun ce h1 => ∃ ce' h2, K ce' h2 ∧ EntC h.length ce h1 ce' h2)) : CallP P f args h K :=
  CallP.ent (callP_enter hE hf hb hx)
end Go.Sy
/-
  Sy22: ranges over functions: the statement, one round, and how a function that has such a loop leaves. No program is named.
-/
namespace Go.Sy

def setPs : List (Option SV) → List Nat → List SV → List (Option SV)
  | T, t :: ts, a :: as => setPs (T.set t (some a)) ts as
  | T, _, _ => T
def toTm : List (Option SV) → Tm
  | [] => []
  | none :: T => none :: toTm T
  | some v :: T => some (none, v) :: toTm T
def offTm : Tm → List (Option SV)
  | [] => []
  | some (none, v) :: T => some v :: offTm T
  | _ :: T => none :: offTm T
theorem toTm_rel {η : Nam} {T : List (Option SV)} {tmps : Array Value} (h : relT η T tmps) : TRel η (toTm T) tmps := by
  have key : ∀ (T : List (Option SV)), (toTm T).length = T.length ∧ ∀ (k : Nat) (g : Option Bool) (sv : SV), (toTm T)[k]? = some (some (g, sv)) → g = none ∧ T[k]? = some (some sv) := by
    intro T
    induction T with
    | nil => exact ⟨rfl, fun k g sv h => by simp [toTm] at h⟩
    | cons x T ih =>
      cases x with
      | none =>
        refine ⟨by simp [toTm, ih.1], fun k g sv h => ?_⟩
        cases k with
        | zero => simp [toTm] at h
        | succ k => simpa [toTm] using ih.2 k g sv (by simpa [toTm] using h)
      | some v =>
        refine ⟨by simp [toTm, ih.1], fun k g sv h => ?_⟩
        cases k with
        | zero => simp [toTm] at h; obtain ⟨rfl, rfl⟩ := h; exact ⟨rfl, rfl⟩
        | succ k => simpa [toTm] using ih.2 k g sv (by simpa [toTm] using h)
  refine ⟨by rw [h.1, (key T).1], fun k g sv hk => ?_⟩
  obtain ⟨rfl, h2⟩ := (key T).2 k g sv hk
  exact ⟨fun _ => h.2 k sv h2, fun hf => by cases hf⟩
theorem offTm_rel {η : Nam} {T : Tm} {tmps : Array Value} (h : TRel η T tmps) : relT η (offTm T) tmps := by
  have key : ∀ (T : Tm), (offTm T).length = T.length ∧ ∀ (k : Nat) (sv : SV), (offTm T)[k]? = some (some sv) → T[k]? = some (some (none, sv)) := by
    intro T
    induction T with
    | nil => exact ⟨rfl, fun k sv h => by simp [offTm] at h⟩
    | cons x T ih =>
      match x with
      | none =>
        refine ⟨by simp [offTm, ih.1], fun k sv h => ?_⟩
        cases k with
        | zero => simp [offTm] at h
        | succ k => simpa [offTm] using ih.2 k sv (by simpa [offTm] using h)
      | some (none, v) =>
        refine ⟨by simp [offTm, ih.1], fun k sv h => ?_⟩
        cases k with
        | zero => simp [offTm] at h; subst h; simp
        | succ k => simpa [offTm] using ih.2 k sv (by simpa [offTm] using h)
      | some (some g, v) =>
        refine ⟨by simp [offTm, ih.1], fun k sv h => ?_⟩
        cases k with
        | zero => simp [offTm] at h
        | succ k => simpa [offTm] using ih.2 k sv (by simpa [offTm] using h)
  refine ⟨by rw [h.1, (key T).1], fun k sv hk => ?_⟩
  exact (h.2 k none sv ((key T).2 k sv hk)).1 rfl
theorem relT.setPs {η : Nam} : ∀ {T : List (Option SV)} {ps : List Nat} {args : List SV} {vs : List Value} {tmps : Array Value}, relT η T tmps → denL η args = some vs →
    relT η (Go.Sy.setPs T ps args) ((ps.zip vs).foldl (fun tmps (t, a) => tmps.setIfInBounds t a) tmps)
  | T, [], args, vs, tmps, h, _ => by simpa [Go.Sy.setPs] using h
  | T, p :: ps, [], vs, tmps, h, hd => by simp only [denL, Option.some.injEq] at hd; subst hd; simpa [Go.Sy.setPs] using h
  | T, p :: ps, x :: xs, vs, tmps, h, hd => by
    obtain ⟨a, as, ha, has, rfl⟩ := denL_cons.1 hd
    simp only [Go.Sy.setPs, List.zip_cons_cons, List.foldl_cons]
    refine relT.setPs ⟨by simp [h.1], fun k sv hk => ?_⟩ has
    rw [List.getElem?_set] at hk
    simp only [Array.getElem?_setIfInBounds]
    split at hk
    · rename_i hpk
      subst hpk
      split at hk
      · rename_i hl
        simp only [Option.some.injEq] at hk
        subst hk
        exact ⟨a, ha, by simp [h.1, hl]⟩
      · cases hk
    · rename_i hpk
      rw [if_neg hpk]
      exact h.2 k sv hk

/-- The loop's record turns. -/
theorem Sat.turn {η : Nam} {φ : Feet} {h : SHeap} {w0 : World} {Ef : Nat → Prop} {w : World} {i : Nat} {T : List (Option SV)} {ps : Array Nat} {a b : Code} {st : LoopState} {p : Option Code} {ad : Nat × Nat} (s : Sat η φ h w0 Ef w)
    (hi : h[i]? = some (some (.loopr T ps a b st p))) (ha : η i = some ad) : ∃ r : Loop, w.heap[ad.1]? = some (.loop r) ∧ r.state = st ∧ r.pending = p ∧
      ∀ st' p', Sat η φ (h.set i (some (.loopr T ps a b st' p'))) w0 Ef (w.putObj ad.1 (.loop { r with state := st', pending := p' })) := by
  obtain ⟨fn, d, tmps, hT, hw⟩ := s.holds i _ ad hi ha
  refine ⟨_, hw, rfl, rfl, fun st' p' => ?_⟩
  have hlt : ad.1 < w.heap.size := by
    rcases Nat.lt_or_ge ad.1 w.heap.size with h | h
    · exact h
    · rw [Array.getElem?_eq_none h] at hw; cases hw
  refine s.upd (o' := .loopr T ps a b st' p') hi ha rfl (fun b hb => hb) (by simp) (fun b hb => World.putObj_heap_other (fun e => hb e.symm)) ⟨fn, d, tmps, hT, ?_⟩
  rw [World.putObj_heap_same hlt]

/-- How a round ends. -/
def rndE (i : Nat) (K : CE → SHeap → Prop) (j : Option Code) (s : St) : Prop :=
  match s.H[i]? with
  | some (some (.loopr T ps a b _ _)) => match j with
    | none => fcL (s.H.set i (some (.loopr T ps a b .ready none))) fun H => K (.ret (.bool true)) H
    | some c => fcL (s.H.set i (some (.loopr T ps a b .done (some c)))) fun H => K (.ret (.bool false)) H
  | _ => False
def rndK (i : Nat) (K : CE → SHeap → Prop) : KS := fun se s ob => match se with
  | .normal => fcP ob fun ob => AllP ob ∧ rndE i K none s
  | .ret => fcP ob fun ob => AllP ob ∧ rndE i K (some .ret) s
  | .exit id => fcP ob fun ob => AllP ob ∧ rndE i K (some (.exit id)) s
  | _ => False
theorem rndK_good (i : Nat) (K : CE → SHeap → Prop) : Good (rndK i K) := by
  intro se s ob h
  unfold rndK at h
  split at h
  · rw [fcP_eq] at h; exact h.1
  · rw [fcP_eq] at h; exact h.1
  · rw [fcP_eq] at h; exact h.1
  · exact h.elim
/-- A round begins. -/
def begK (E : Env) (P : Program) (l n i : Nat) (body : Code) (K : CE → SHeap → Prop) : KS := fun se s ob => match se with
  | .normal => match s.H[i]? with
    | some (some (.loopr T ps a b .ready p)) => fcL (s.H.set i (some (.loopr T ps a b .busy p))) fun H => X E P (some l) n body ⟨s.T, H, s.D⟩ ob (rndK i K)
    | _ => False
  | _ => False
theorem begK_good (E : Env) (P : Program) (l n i : Nat) (body : Code) (K : CE → SHeap → Prop) : Good (begK E P l n i body K) := by
  intro se s ob h
  unfold begK at h
  split at h
  · split at h
    · rw [fcL_eq] at h; exact X_owed body _ _ _ (rndK_good i K) h
    · exact h.elim
  · exact h.elim

theorem roundP {E : Env} {P : Program} (hE : E.ok P) {i : Nat} {args : List SV} {h : SHeap} {K : CE → SHeap → Prop} {T : List (Option SV)} {ps : Array Nat} {assign body : Code}
    (hi : h[i]? = some (some (.loopr T ps assign body .ready none))) (hl : args.length = ps.size)
    (hx : ∀ l, X E P (some l) h.length assign ⟨toTm (setPs T ps.toList args), h, []⟩ [] (begK E P l h.length i body K)) : YieldP P i args h K := by
  intro η φ w0 Ef w vs hs hd
  obtain ⟨ad, had⟩ := hs.named i _ hi
  obtain ⟨fn, d, tmps, hT, hw⟩ := hs.holds i _ ad hi had
  have hsz : vs.toArray.size = ps.size := by simp [denL_length hd, hl]
  have hlt := lt_of_get hi
  have run := run_yield (P := P) hw (args := vs.toArray) hsz
  refine ⟨ad, _, _, _, _, had, run, ?_⟩
  refine roundIn_of_wpIn (F := Fw none) (n := 0) trivial ?_
  have hT' := hT.setPs (ps := ps.toList) hd
  have e0 : (ps.zip vs.toArray).foldl (fun tmps (t, a) => tmps.setIfInBounds t a) tmps = (ps.toList.zip vs).foldl (fun tmps (t, a) => tmps.setIfInBounds t a) tmps := by
    rw [← Array.foldl_toList]
    simp
  have c1 := X_ok hE assign _ _ _ (fun se s => ∃ ob, begK E P ad.1 h.length i body K se s ob) (begK_good E P ad.1 h.length i body K) (fun se s ob hk => ⟨ob, hk⟩) (hx ad.1) η η φ w0 Ef w
    { tmps := (ps.toList.zip vs).foldl (fun tmps (t, a) => tmps.setIfInBounds t a) tmps, defers := [] } (Pin.refl _ _) (Nat.le_refl _) hs (toTm_rel hT') rfl
  rw [← e0] at c1
  refine wpIn_mono c1 ?_
  rintro e a1 w1 ⟨se, s1, η1, φ1, ⟨ob, k⟩, p1, p2, pe, p3, p4, p5⟩
  unfold begK at k
  split at k
  · have pe : e = .normal := pe
    subst pe
    split at k
    · rename_i T1 ps1 b1 b2 p hH
      rw [fcL_eq] at k
      have had1 : η1 i = some ad := by rw [p1 i hlt]; exact had
      obtain ⟨r, hr, hst, hpe, hturn⟩ := p3.turn hH had1
      refine ⟨_, run_beginRound hr hst, ?_⟩
      subst hpe
      have s2 := hturn .busy r.pending
      have c2 := X_ok hE body _ _ _ (fun se s => ∃ ob, rndK i K se s ob) (rndK_good i K) (fun se s ob hk => ⟨ob, hk⟩) k η η1 φ1 w0 Ef _ a1 p1 (by simpa using p2) s2 p4 p5
      refine wpIn_mono c2 ?_
      rintro e a2 w2 ⟨se, s2, η2, φ2, ⟨ob, k⟩, q1, q2, qe, q3, q4, q5⟩
      have had2 : η2 i = some ad := by rw [q1 i hlt]; exact had
      have fin : ∀ (j : Option Code), rndE i K j s2 → ∃ v w', (Instr.endRound ad.1 j).run P w2 = .ok v w' ∧ ∃ ce h' η' φ', K ce h' ∧ h.length ≤ h'.length ∧ Pin h.length η η' ∧ cRel η' ce (.returned v) ∧ Sat η' φ' h' w0 Ef w' := by
        intro j hj
        unfold rndE at hj
        split at hj
        · rename_i T2 ps2 b3 b4 st2 p2' hH2
          obtain ⟨r2, hr2, _, _, hturn2⟩ := q3.turn hH2 had2
          refine ⟨_, _, run_endRound j hr2, ?_⟩
          cases j with
          | none =>
            simp only [fcL_eq] at hj
            exact ⟨_, _, η2, φ2, hj, by simpa using q2, q1, ⟨_, rfl, rfl⟩, by simpa using hturn2 .ready none⟩
          | some c =>
            simp only [fcL_eq] at hj
            exact ⟨_, _, η2, φ2, hj, by simpa using q2, q1, ⟨_, rfl, rfl⟩, by simpa using hturn2 .done (some c)⟩
        · exact hj.elim
      unfold rndK at k
      split at k
      · have qe : e = .normal := qe
        subst qe
        rw [fcP_eq] at k
        exact fin none k.2
      · have qe : e = .ret := qe
        subst qe
        rw [fcP_eq] at k
        exact fin (some .ret) k.2
      · rename_i id
        have qe : e = .exit id := qe
        subst qe
        rw [fcP_eq] at k
        exact fin (some (.exit id)) k.2
      · exact k.elim
    · exact k.elim
  · exact k.elim

def isDfr (o : Obj) : Prop := o = .deferred (some [])

/-- The statement. -/
theorem rangeP {E : Env} {P : Program} (hE : E.ok P) {n : Nat} {f : Operand} {ps : Array Nat} {assign body : Code} {s : St} {K : SE → St → Prop} {g : Nat} {first cap : List SV}
    (hf : ldG s.T s.H f = some (none, .fn (.func g) first cap)) (hg : E.fn g = true)
    (hc : CallP P g (first ++ (.yld (s.H.length + 1) :: cap)) (s.H ++ [some (.obj isDfr), some (.loopr (offTm s.T) ps assign body .ready none)]) fun ce H => match ce with
      | .panic v => K (.panic v) ⟨s.T, H, .yld s.H.length :: s.D⟩
      | .ret _ => match H[s.H.length + 1]? with
        | some (some (.loopr T ps a b st p)) => st ≠ .busy ∧ fcL (H.set (s.H.length + 1) (some (.loopr T ps a b .exhausted p))) fun H => match p with
          | none => K .normal ⟨s.T, H, .yld s.H.length :: s.D⟩
          | some c => CodeP P none n c ⟨s.T, H, .yld s.H.length :: s.D⟩ K
        | _ => False) : CodeP P none n (.rangeFunc f ps assign body) s K := by
  intro η0 η φ w0 Ef w a h1 h2 h3 h4 h5
  have hdf := ldG_ok h3 h4 hf rfl
  simp only [den, Option.bind_eq_some_iff, Option.map_eq_some_iff] at hdf
  obtain ⟨fs, hfs, cs, hcs, hev⟩ := hdf
  refine wpIn_rangeFunc fun fn _ => ?_
  let W1 := w.alloc (.deferred (some []))
  let L : Loop := { state := .ready, pending := none, fn, tmps := a.tmps, params := ps, assign, body, defers := w.heap.size }
  let W2 := W1.alloc (.loop L)
  let η1 := η.put s.H.length (w.heap.size, 0)
  let η2 := η1.put (s.H.length + 1) (w.heap.size + 1, 0)
  have r0 := h3.room 2
  have n0 : (s.H ++ List.replicate 2 none)[s.H.length]? = some none := by simp
  have s1 : Sat η1 φ ((s.H ++ List.replicate 2 none).set s.H.length (some (.obj isDfr))) w0 Ef W1 := r0.new (o := .obj isDfr) (ob := .deferred (some [])) n0 rfl (fun b hb => hb.symm) ⟨.deferred (some []), by simp, rfl⟩
  have n1 : ((s.H ++ List.replicate 2 none).set s.H.length (some (.obj isDfr)))[s.H.length + 1]? = some none := by
    rw [List.getElem?_set_ne (by omega)]
    simp
  have hsz1 : W1.heap.size = w.heap.size + 1 := World.size_alloc w _
  have hnone0 : η s.H.length = none := r0.free fun o => by rw [n0]; simp
  have hle1 : η.le η1 := Nam.le_put hnone0
  have hnone1 : η1 (s.H.length + 1) = none := s1.free fun o => by rw [n1]; simp
  have hle2 : η1.le η2 := Nam.le_put hnone1
  have hle : η.le η2 := hle1.trans hle2
  have hoth2 : ∀ j, j ≠ s.H.length + 1 → η2 j = η1 j := fun j hj => Nam.put_other _ _ hj
  have hoth1 : ∀ j, j ≠ s.H.length → η1 j = η j := fun j hj => Nam.put_other _ _ hj
  have s2 : Sat η2 φ (((s.H ++ List.replicate 2 none).set s.H.length (some (.obj isDfr))).set (s.H.length + 1) (some (.loopr (offTm s.T) ps assign body .ready none))) w0 Ef W2 := by
    have := s1.new (o := .loopr (offTm s.T) ps assign body .ready none) (ob := .loop L) n1 rfl (fun b hb => hb.symm) ⟨fn, w.heap.size, a.tmps, ?_, by simp [L]⟩
    · rw [hsz1] at this
      exact this
    · rw [hsz1]
      exact (offTm_rel h4).mono hle
  have eH : ((s.H ++ List.replicate 2 none).set s.H.length (some (.obj isDfr))).set (s.H.length + 1) (some (.loopr (offTm s.T) ps assign body .ready none)) = s.H ++ [some (.obj isDfr), some (.loopr (offTm s.T) ps assign body .ready none)] := by
    simp [List.replicate]
  rw [eH] at s2
  have e2 : η2 (s.H.length + 1) = some (w.heap.size + 1, 0) := Nam.put_same _ _ _
  have e1 : η2 s.H.length = some (w.heap.size, 0) := (hoth2 _ (by omega)).trans (Nam.put_same _ _ _)
  have hpin : Pin s.H.length η η2 := fun i hi => (hoth2 i (by omega)).trans (hoth1 i (by omega))
  have hd : denL η2 (first ++ (.yld (s.H.length + 1) :: cap)) = some (fs ++ (.func (.yield (w.heap.size + 1)) #[] #[] :: cs)) :=
    denL_append (denL_mono hle _ _ hfs) (denL_cons.2 ⟨_, _, by simp [den, e2], denL_mono hle _ _ hcs, rfl⟩)
  refine ⟨w.heap.size + 1, [{ target := .collected w.heap.size, args := #[] }], W2, { target := .fn (.func g) cs.toArray, args := fs.toArray ++ #[.func (.yield (w.heap.size + 1)) #[] #[]] }, W2, g, (fs ++ (.func (.yield (w.heap.size + 1)) #[] #[] :: cs)).toArray, W2, ?_, ?_, fun _ _ => trivial, ?_, fun h => by simp [Fw, Fence.wide] at h, ?_⟩
  · exact run_enterLoop_outer fn a.tmps ps assign body
  · simp only [resolve, ← hev, Deferred.ofValue]
    simp [Act.eval]
  · simp only [invoke]
    rw [run_callFunc hE hg]
    simp
  · refine callsIn_fw ((hc η2 φ w0 Ef W2 _ s2 hd).mono ?_)
    rintro e w3 ⟨ce, H, η3, φ3, k, hl, hp, hce, hs3⟩
    have hle3 := Nam.le_of_pin s2 hp
    have hT3 : TRel η3 s.T a.tmps := h4.mono (hle.trans hle3)
    have hl' : s.H.length + 2 ≤ H.length := by simpa using hl
    have hp0 : Pin n η0 η3 := (h1.trans hpin h2).trans hp (by simp; omega)
    have m1 : η3 s.H.length = some (w.heap.size, 0) := hle3 _ _ e1
    have m2 : η3 (s.H.length + 1) = some (w.heap.size + 1, 0) := hle3 _ _ e2
    have hD3 : DRel η3 (.yld s.H.length :: s.D) ({ target := .collected w.heap.size, args := #[] } :: a.defers) := by
      have := h5.mono (hle.trans hle3)
      unfold DRel at this ⊢
      rw [List.mapM_cons, this]
      simp [denD, m1]
    cases ce with
    | panic v =>
      obtain ⟨u, hu, rfl⟩ := hce
      exact ⟨_, _, η3, φ3, k, hp0, by simp; omega, ⟨u, hu, rfl⟩, hs3, hT3, hD3⟩
    | ret v =>
      obtain ⟨u, hu, rfl⟩ := hce
      simp only at k
      split at k
      · rename_i T ps' b1 b2 st p hH
        obtain ⟨hst, k⟩ := k
        rw [fcL_eq] at k
        obtain ⟨r, hr, e3, e4, hturn⟩ := hs3.turn hH m2
        refine ⟨r.pending, _, run_endLoop hr (by rw [e3]; exact hst), ?_⟩
        have hs4 := hturn .exhausted p
        rw [← e4] at hs4
        rw [e4] at hs4 ⊢
        cases p with
        | none => exact ⟨_, _, η3, φ3, k, hp0, by simp; omega, rfl, by simpa [← e4] using hs4, hT3, hD3⟩
        | some c => exact k η0 η3 φ3 w0 Ef _ _ hp0 (by simp; omega) (by simpa [← e4] using hs4) hT3 hD3
      · exact k.elim
end Go.Sy
/-
  Sy23: how a function that has a range over a function leaves; a cell that holds a slice with its array is one block. No program is named.
-/
namespace Go.Sy

/-- The block for the rounds' deferred calls is shut. -/
theorem Sat.take {η : Nam} {φ : Feet} {h : SHeap} {w0 : World} {Ef : Nat → Prop} {w : World} {m : Nat} {I : Obj → Prop} {ad : Nat × Nat} (s : Sat η φ h w0 Ef w)
    (hm : h[m]? = some (some (.obj I))) (hI : ∀ o, I o → o = .deferred (some [])) (ha : η m = some ad) : w.heap[ad.1]? = some (.deferred (some [])) ∧ Sat η φ (h.set m (some .dead)) w0 Ef (w.putObj ad.1 (.deferred none)) := by
  obtain ⟨o, hw, ho⟩ := s.holds m _ ad hm ha
  have := hI o ho
  subst this
  refine ⟨hw, s.upd (o' := .dead) hm ha rfl (fun b hb => hb.elim) (by simp) (fun b hb => World.putObj_heap_other (fun e => hb e.symm)) trivial⟩

def endM (E : Env) (rs : List ResultVar) (K : SV → SHeap → Prop) (s : St) (ob : List Prop) : Prop :=
  match s.D with
  | [.yld m] => match s.H[m]? with
    | some (some (.obj I)) => fcP ob fun ob => AllP ob ∧ (∀ o, I o → o = .deferred (some [])) ∧ fcL (s.H.set m (some .dead)) fun H => match resL E ⟨s.T, H, []⟩ rs with
      | some (vs, ob') => fcP ob' fun ob' => AllP ob' ∧ fcV (resOne vs) fun v => K v H
      | none => False
    | _ => False
  | _ => False
def retKM (E : Env) (rs : List ResultVar) (K : SV → SHeap → Prop) : KS := fun se s ob => match se with
  | .normal => endM E rs K s ob
  | .ret => endM E rs K s ob
  | _ => False
theorem retKM_good (E : Env) (rs : List ResultVar) (K : SV → SHeap → Prop) : Good (retKM E rs K) := by
  have key : ∀ s ob, endM E rs K s ob → AllP ob := by
    intro s ob h
    unfold endM at h
    split at h
    · split at h
      · rw [fcP_eq] at h; exact h.1
      · exact h.elim
    · exact h.elim
  intro se s ob h
  unfold retKM at h
  split at h
  · exact key _ _ h
  · exact key _ _ h
  · exact h.elim

theorem drel_mark {η : Nam} {m : Nat} {D : List SV} {ds : List Deferred} (h : DRel η (.yld m :: D) ds) : ∃ ad ds', η m = some ad ∧ ds = { target := .collected ad.1, args := #[] } :: ds' ∧ DRel η D ds' := by
  unfold DRel at h
  simp only [List.mapM_cons, denD, Option.bind_eq_bind, Option.bind_eq_some_iff, Option.map_eq_some_iff, Option.pure_def, Option.some.injEq] at h
  obtain ⟨d, ⟨ad, had, rfl⟩, ds', h2, rfl⟩ := h
  exact ⟨ad, ds', had, rfl, h2⟩

/-- A frame leaves: its deferred calls, in front of them the mark of a loop, or none. -/
def LeavesQ (P : Program) (fn : Func) (tmps : Array Value) (R : Ending → World → Prop) (ds : List Deferred) (u : FrameMode) (w : World) : Prop :=
  Leaves P fn tmps R ds u w ∨ ∃ r w' d ds', ds = d :: ds' ∧ d.target = .collected r ∧ u ≠ .run ∧ (Instr.takeDeferred r).run P w = .ok [] w' ∧ Leaves P fn tmps R ds' u w'
theorem leavesQ_steps {P : Program} {fn : Func} {tmps : Array Value} {R : Ending → World → Prop} (ds : List Deferred) (u : FrameMode) (w : World) (fr : Frame)
    (cs : List Frame) (hu : fr.mode = u) (hd : fr.defers = ds) (ht : fr.tmps = tmps) (hf : P.funcs[fr.fn]? = some fn) (hk : fr.kind = .normal) (h : LeavesQ P fn tmps R ds u w) :
    ∃ e w' fr', R e w' ∧ Comes P (lone fr cs w) (lone fr' cs w') e ∧ fr'.fn = fr.fn ∧ fr'.leaving P w' e := by
  rcases h with h | ⟨r, w', d, ds', hds, htar, hrun, htake, h⟩
  · exact leaves_steps ds u w fr cs hu hd ht hf hk h
  · rw [hds] at hd
    have h1 := step_collected (cs := cs) (hu ▸ hrun) hd htar htake
    obtain ⟨e', w'', fr', hR', hs', hfn', hl'⟩ := leaves_steps ds' u w' { fr with defers := [] ++ ds' } cs hu rfl ht hf hk h
    exact ⟨e', w'', fr', hR', Comes.of_steps (.one h1) hs', hfn', hl'⟩
def bodyPostQ (P : Program) (fn : Func) (R : Ending → World → Prop) : Exit → Act → World → Prop
  | .normal, a, w | .ret, a, w => LeavesQ P fn a.tmps R a.defers .returning w
  | .panic chain, a, w => LeavesQ P fn a.tmps R a.defers (.panicking chain) w
  | .outgrown, _, w => R .outgrown w
  | _, _, _ => False
theorem calls_of_wpQ {P : Program} {f : FuncId} {fn : Func} {c : Code} {args : Array Value} {w : World} {R : Ending → World → Prop}
    (hf : P.funcs[f]? = some fn) (hb : fn.body = some c)
    (h : c.wp P (bodyPostQ P fn R) { tmps := args ++ Array.replicate (fn.ntmps - args.size) undef, defers := [] } w) : Calls P f args w R := by
  intro cs
  let b : Frame := { (default : Frame) with fn := f, kind := .normal }
  have henter : Frame.enter P f args .normal =
      b.at { tmps := args ++ Array.replicate (fn.ntmps - args.size) undef, defers := [] } [.code c] := by
    simp [Frame.enter, Frame.at, hf, hb, b]
  obtain ⟨e, a', w', hq, harr⟩ := h b [] cs
  rw [← henter] at harr
  cases e with
  | normal =>
    obtain ⟨e', w'', fr', hR, hs, hfn, hl⟩ := leavesQ_steps a'.defers .returning w' { b.at a' [] with mode := .returning } cs rfl rfl rfl hf rfl hq
    exact ⟨e', w'', fr', hR, Comes.of_steps (Steps.trans harr (.one step_end)) hs, hfn, hl⟩
  | ret =>
    obtain ⟨todo, hs₀⟩ := harr
    obtain ⟨e', w'', fr', hR, hs, hfn, hl⟩ := leavesQ_steps a'.defers .returning w' { b.at a' todo with mode := .returning } cs rfl rfl rfl hf rfl hq
    exact ⟨e', w'', fr', hR, Comes.of_steps hs₀ hs, hfn, hl⟩
  | panic chain =>
    obtain ⟨todo, hs₀⟩ := harr
    obtain ⟨e', w'', fr', hR, hs, hfn, hl⟩ := leavesQ_steps a'.defers (.panicking chain) w' { b.at a' todo with mode := .panicking chain } cs rfl rfl rfl hf rfl hq
    exact ⟨e', w'', fr', hR, Comes.of_steps hs₀ hs, hfn, hl⟩
  | exit id => exact hq.elim
  | goto l => exact hq.elim
  | outgrown => exact ⟨.outgrown, w', b, hq, harr.resolve_left (by simp [b]), rfl, trivial⟩

/-- A function that ranges over a function. -/
theorem callM {E : Env} {P : Program} (hE : E.ok P) {f : Nat} {fn : Func} {c : Code} {args : List SV} {h : SHeap} {K : CE → SHeap → Prop} (hf : P.funcs[f]? = some fn) (hb : fn.body = some c)
    (hx : X E P none h.length c ⟨initT args fn.ntmps, h, []⟩ [] (retKM E fn.results.toList fun v h1 => ∃ ce' h2, K ce' h2 ∧ EntC h.length (.ret v) h1 ce' h2)) : CallP P f args h K := by
  refine CallP.ent ?_
  intro η φ w0 Ef w vs hs hd
  let KM := retKM E fn.results.toList fun v h1 => ∃ ce' h2, K ce' h2 ∧ EntC h.length (.ret v) h1 ce' h2
  have hc := X_ok hE c _ _ _ (fun se s => ∃ ob, KM se s ob) (retKM_good E fn.results.toList _) (fun se s ob hk => ⟨ob, hk⟩) hx η η φ w0 Ef w { tmps := vs.toArray ++ Array.replicate (fn.ntmps - vs.toArray.size) undef, defers := [] } (Pin.refl _ _) (Nat.le_refl _) hs (initT_ok hd _) rfl
  refine calls_of_wpQ hf hb (wp_mono (wpIn_wide.1 hc) ?_)
  rintro e a w' ⟨se, s, η', φ', ⟨ob, k⟩, p1, p2, pe, p3, p4, p5⟩
  have main : endM E fn.results.toList (fun v h1 => ∃ ce' h2, K ce' h2 ∧ EntC h.length (.ret v) h1 ce' h2) s ob →
      LeavesQ P fn a.tmps (fun e w' => ∃ ce h1 η1 φ1, (∃ ce' h2, K ce' h2 ∧ EntC h.length ce h1 ce' h2) ∧ h.length ≤ h1.length ∧ Pin h.length η η1 ∧ cRel η1 ce e ∧ Sat η1 φ1 h1 w0 Ef w') a.defers .returning w' := by
    intro hk
    unfold endM at hk
    split at hk
    · rename_i m hD
      split at hk
      · rename_i I hm
        rw [fcP_eq, fcL_eq] at hk
        obtain ⟨_, hI, hk⟩ := hk
        rw [hD] at p5
        obtain ⟨ad, ds', had, hds, hds'⟩ := drel_mark p5
        have hnil : ds' = [] := by simpa [DRel] using hds'.symm
        subst hnil
        obtain ⟨hw, hs'⟩ := p3.take hm hI had
        rw [hds]
        refine .inr ⟨ad.1, _, _, _, rfl, rfl, by simp, run_takeDeferred hw, ?_⟩
        split at hk
        · rename_i us ob' hres
          rw [fcP_eq, fcV_eq] at hk
          obtain ⟨u, h1, h2⟩ := run_results (P := P) (s := ⟨s.T, s.H.set m (some .dead), []⟩) hE hs' p4 hres hk.1
          exact ⟨u, h2, .ret (resOne us), _, η', φ', hk.2, by simpa using p2, p1, ⟨u, h1, rfl⟩, hs'⟩
        · exact hk.elim
      · exact hk.elim
    · exact hk.elim
  show bodyPostQ P fn _ e a w'
  have k : retKM E fn.results.toList (fun v h1 => ∃ ce' h2, K ce' h2 ∧ EntC h.length (.ret v) h1 ce' h2) se s ob := k
  unfold retKM at k
  split at k
  · have pe : e = .normal := pe
    subst pe
    exact main k
  · have pe : e = .ret := pe
    subst pe
    exact main k
  · exact k.elim

end Go.Sy
/-
  Sy24: what is said before a call, and behind it, may be said otherwise; a cell with a slice and its array as one block. No program is named.
-/
namespace Go.Sy

theorem Ent.trans {n : Nat} {s t u : St} (h1 : Ent n s t) (h2 : Ent n t u) : Ent n s u := by
  intro η φ w0 Ef w a hn hs hT hD
  obtain ⟨η', φ', p1, p2, p3, p4, p5⟩ := h1 η φ w0 Ef w a hn hs hT hD
  obtain ⟨η2, φ2, q1, q2, q3, q4, q5⟩ := h2 η' φ' w0 Ef w a p2 p3 p4 p5
  exact ⟨η2, φ2, fun i hi => (q1 i hi).trans (p1 i hi), q2, q3, q4, q5⟩

theorem trel_args {η : Nam} : ∀ {args : List SV} {vs : List Value}, denL η args = some vs → TRel η (args.map fun v => some (none, v)) vs.toArray := by
  intro args vs hd
  refine ⟨by simp [denL_length hd], fun k g sv hk => ?_⟩
  simp only [List.getElem?_map, Option.map_eq_some_iff, Option.some.injEq, Prod.mk.injEq] at hk
  obtain ⟨x, hx, rfl, rfl⟩ := hk
  obtain ⟨v, h1, h2⟩ := denL_get hd hx
  exact ⟨fun _ => ⟨v, h1, by simpa using h2⟩, fun hf => by cases hf⟩
theorem args_trel {η : Nam} : ∀ {args : List SV} {vs : List Value}, TRel η (args.map fun v => some (none, v)) vs.toArray → denL η args = some vs
  | [], vs, h => by
    have := h.1
    simp at this
    subst this; rfl
  | x :: xs, vs, h => by
    have hl := h.1
    cases vs with
    | nil => simp at hl
    | cons v vs =>
      obtain ⟨u, h1, h2⟩ := (h.2 0 none x (by simp)).1 rfl
      simp at h2
      subst h2
      refine denL_cons.2 ⟨_, _, h1, args_trel ⟨by simpa using hl, fun k g sv hk => ?_⟩, rfl⟩
      have := h.2 (k + 1) g sv (by simpa using hk)
      simpa using this

def argT (args : List SV) : Tm := args.map fun v => some (none, v)

/-- A heap is said otherwise before a call. -/
theorem CallP.pre {P : Program} {f : FuncId} {args args' : List SV} {h h' : SHeap} {K : CE → SHeap → Prop} (he : Ent h.length ⟨argT args, h, []⟩ ⟨argT args', h', []⟩) (hc : CallP P f args' h' K) : CallP P f args h K := by
  intro η φ w0 Ef w vs hs hd
  obtain ⟨η', φ', p1, p2, p3, p4, _⟩ := he η φ w0 Ef w { tmps := vs.toArray, defers := [] } (Nat.le_refl _) hs (trel_args hd) rfl
  refine (hc η' φ' w0 Ef w vs p3 (args_trel p4)).mono ?_
  rintro e w' ⟨ce, h1, η1, φ1, k, q1, q2, q3⟩
  exact ⟨ce, h1, η1, φ1, k, Nat.le_trans p2 q1, fun i hi => (q2 i (Nat.lt_of_lt_of_le hi p2)).trans (p1 i hi), q3⟩
theorem YieldP.pre {P : Program} {i : Nat} {args args' : List SV} {h h' : SHeap} {K : CE → SHeap → Prop} (he : Ent h.length ⟨argT args, h, []⟩ ⟨argT args', h', []⟩) (hi : i < h.length) (hc : YieldP P i args' h' K) : YieldP P i args h K := by
  intro η φ w0 Ef w vs hs hd
  obtain ⟨η', φ', p1, p2, p3, p4, _⟩ := he η φ w0 Ef w { tmps := vs.toArray, defers := [] } (Nat.le_refl _) hs (trel_args hd) rfl
  obtain ⟨a, f, tmps, assign, body, e1, e2, e3⟩ := hc η' φ' w0 Ef w vs p3 (args_trel p4)
  refine ⟨a, f, tmps, assign, body, by rw [← p1 i hi]; exact e1, e2, e3.mono ?_⟩
  rintro e w' ⟨ce, h1, η1, φ1, k, q1, q2, q3⟩
  exact ⟨ce, h1, η1, φ1, k, Nat.le_trans p2 q1, fun i hi => (q2 i (Nat.lt_of_lt_of_le hi p2)).trans (p1 i hi), q3⟩

end Go.Sy
/-
  Sy25: regions that draw their order and may panic. No program is named.
-/
namespace Go.Sy

def clrK : List Oper → Tm → (Tm → Prop) → Prop
  | [], T, k => k T
  | o :: os, T, k => match o.dst with
    | some d => fcL (T.set d none) fun T => clrK os T k
    | none => clrK os T k
theorem clrK_eq : ∀ (l : List Oper) (T : Tm) (k : Tm → Prop), clrK l T k = k (clr l T)
  | [], _, _ => rfl
  | o :: os, T, k => by
    unfold clrK clr
    cases h : o.dst with
    | none => simp only [clrK_eq os, putT]
    | some d => simp only [fcL_eq, clrK_eq os, putT]

theorem drawQ {E : Env} {P : Program} (hE : E.ok P) {r : Option Nat} {n id : Nat} {ops : Array Oper} {s : St} {K : SE → St → Prop} (ks : List Nat) (plan : Plan) (hc : checkPlan ops plan = true)
    (hx : fcSt ⟨s.T, lockH ks 0 s.H, s.D⟩ fun s1 => planX E P r s1.H ops.toList plan s1 [] fun se s' ob => match se with
      | .normal => fcP ob fun ob => AllP ob ∧ roB s1.H s'.H = true ∧ fcH (unlH s.H s1.H s'.H) fun H => K .normal ⟨s'.T, H, s'.D⟩
      | .panic v => fcP ob fun ob => AllP ob ∧ roB s1.H s'.H = true ∧ fcH (unlH s.H s1.H s'.H) fun H => clrK ops.toList s'.T fun T => K (.panic v) ⟨T, H, s'.D⟩
      | _ => False) : CodeP P r n (.region id ops true) s K := by
  refine drawP hE ks plan hc ?_
  rw [fcSt_eq] at hx ⊢
  refine Eq.mp (congrArg (planX E P r _ ops.toList plan _ []) ?_) hx
  funext se s' ob
  cases se with
  | panic v => simp only [clrK_eq, fcL_eq]
  | _ => rfl
end Go.Sy
/-
  Sy26: values and blocks said in another way that denotes the same. No program is named.
-/
namespace Go.Sy

def fcC (ce : CE) (k : CE → Prop) : Prop :=
  match ce with
  | .ret v => fcW v fun v => k (.ret v)
  | .panic v => fcW v fun v => k (.panic v)
theorem fcC_eq (ce : CE) (k : CE → Prop) : fcC ce k = k ce := by
  cases ce <;> simp [fcC, fcW_eq]
/-- A contract with choices, in a greater heap; what comes of it is made whole. -/
theorem CallP.frameH {P : Program} {f : FuncId} {a0 args : List SV} {h0 h : SHeap} {K0 K : CE → SHeap → Prop} (hc : CallP P f a0 h0 K0) (σ : List Nat)
    (hf : Fits (sig σ h.length) h σ h0) (ha : renL (sig σ h.length) a0 = args)
    (hk : ∀ ce h', K0 ce h' → ownB h0 h' = true ∧ fcH (updH σ h h0 h') fun H => fcC (renC (sig σ h.length) ce) fun ce => K ce H)
    (hap : apartB σ h0 = true := by rfl) : CallP P f args h K :=
  CallP.frame hc σ hf (apartB_ok hap) ha fun ce h' hK => by
    obtain ⟨h1, h2⟩ := hk ce h' hK
    rw [fcH_eq, fcC_eq] at h2
    exact ⟨ownB_ok h1, h2⟩
theorem CallP.argsD {P : Program} {f : FuncId} {args args' : List SV} {h : SHeap} {K : CE → SHeap → Prop} (hd : ∀ η, denL η args = denL η args') (hc : CallP P f args' h K) : CallP P f args h K :=
  fun η φ w0 Ef w vs hs hv => hc η φ w0 Ef w vs hs (by rw [← hd]; exact hv)
theorem YieldP.argsD {P : Program} {i : Nat} {args args' : List SV} {h : SHeap} {K : CE → SHeap → Prop} (hd : ∀ η, denL η args = denL η args') (hc : YieldP P i args' h K) : YieldP P i args h K :=
  fun η φ w0 Ef w vs hs hv => hc η φ w0 Ef w vs hs (by rw [← hd]; exact hv)
/-- One value handed back, said otherwise. -/
theorem entV {n : Nat} {v v' : SV} {H : SHeap} {D : List SV} (h : ∀ η, den η v = den η v') : Ent n ⟨[some (none, v)], H, D⟩ ⟨[some (none, v')], H, D⟩ := by
  intro η φ w0 Ef w a hn hs hT hD
  refine ⟨η, φ, fun _ _ => rfl, hn, hs, ⟨hT.1, fun k g sv hk => ?_⟩, hD⟩
  cases k with
  | zero =>
    simp only [List.getElem?_cons_zero, Option.some.injEq, Prod.mk.injEq] at hk
    obtain ⟨rfl, rfl⟩ := hk
    refine ⟨fun _ => ?_, fun hf => by cases hf⟩
    obtain ⟨u, h1, h2⟩ := (hT.2 0 none v rfl).1 rfl
    exact ⟨u, by rw [← h]; exact h1, h2⟩
  | succ k => simp at hk
/-- What is left to do behind a range over a function, if a round returned. -/
theorem codeP_ret {P : Program} {r : Option Nat} {n : Nat} {s : St} {K : SE → St → Prop} (h : K .ret s) : CodeP P r n .ret s K :=
  fun _ _ _ _ _ _ _ h1 h2 h3 h4 h5 => wpIn_ret (Post.ex h rfl ⟨h1, h2, h3, h4, h5⟩)
theorem CodeP.pre {P : Program} {r : Option Nat} {n : Nat} {c : Code} {s t : St} {K : SE → St → Prop} (he : Ent n s t) (hc : CodeP P r n c t K) : CodeP P r n c s K := by
  intro η0 η φ w0 Ef w a h1 h2 h3 h4 h5
  obtain ⟨η', φ', p1, p2, p3, p4, p5⟩ := he η φ w0 Ef w a h2 h3 h4 h5
  exact hc η0 η' φ' w0 Ef w a (fun i hi => (p1 i hi).trans (h1 i hi)) p2 p3 p4 p5
end Go.Sy
