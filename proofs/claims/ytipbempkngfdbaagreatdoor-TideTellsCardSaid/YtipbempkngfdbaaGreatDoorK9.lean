/-
  Parts: Sy16, Sy17, Sy18, Sy19, Sy20.
-/
import Derived.Test.YtipbempkngfdbaaGreatDoorK8
set_option linter.unusedVariables false
/-
  Sy16: loops and code, as they are used. No program is named.
-/
namespace Go.Sy

theorem codeP_X {E : Env} {P : Program} (hE : E.ok P) {r : Option Nat} {n : Nat} {c : Code} {s : St} {K : SE → St → Prop} (h : X E P r n c s [] fun se s ob => fcP ob fun ob => AllP ob ∧ K se s) : CodeP P r n c s K :=
  X_ok hE c s [] _ K (fun se s ob hk => by rw [fcP_eq] at hk; exact hk.1) (fun se s ob hk => by rw [fcP_eq] at hk; exact hk.2) h

def findT : List (Nat × SV) → Nat → Option SV
  | [], _ => none
  | (k, v) :: l, i => match Nat.beq k i with
    | true => some v
    | false => findT l i
def memT : List Nat → Nat → Bool
  | [], _ => false
  | k :: l, i => match Nat.beq k i with
    | true => true
    | false => memT l i
/-- The temporaries that a loop keeps, and those that it has of its own. -/
def mkT (keep : List Nat) (vars : List (Nat × SV)) : Nat → Tm → Tm
  | _, [] => []
  | i, x :: xs => (match findT vars i with
    | some v => some (none, v)
    | none => match memT keep i with
      | true => x
      | false => none) :: mkT keep vars (i + 1) xs

def fcT (l : Tm) (k : Tm → Prop) : Prop :=
  match l with
  | [] => k []
  | none :: xs => fcT xs fun ys => k (none :: ys)
  | some (g, v) :: xs => fcV v fun v => fcT xs fun ys => k (some (g, v) :: ys)
theorem fcT_eq : ∀ (l : Tm) (k : Tm → Prop), fcT l k = k l
  | [], _ => rfl
  | none :: xs, _ => fcT_eq xs _
  | some (g, v) :: xs, k => by rw [fcT, fcV_eq, fcT_eq xs]
def fcSt (s : St) (k : St → Prop) : Prop := fcT s.T fun T => fcH s.H fun H => fcL s.D fun D => k ⟨T, H, D⟩
theorem fcSt_eq (s : St) (k : St → Prop) : fcSt s k = k s := by rw [fcSt, fcT_eq, fcH_eq, fcL_eq]

/-- A loop. keep: the temporaries that it leaves alone; vars: those that it changes, by the round; heap: the blocks, by the round. -/
theorem loopP {E : Env} {P : Program} (hE : E.ok P) {r : Option Nat} {n : Nat} {c : Code} {s : St} {K : SE → St → Prop} {γ : Type} (keep : List Nat) (vars : γ → List (Nat × SV)) (heap : γ → SHeap → SHeap)
    (p : γ → Prop) (μ : γ → Nat) (g0 : γ) (h0 : p g0) (he : Ent n s ⟨mkT keep (vars g0) 0 s.T, heap g0 s.H, s.D⟩)
    (round : fcSt s fun s => ∀ g, p g → fcSt ⟨mkT keep (vars g) 0 s.T, heap g s.H, s.D⟩ fun t => X E P r n c t [] fun se s' ob => fcP ob fun ob => AllP ob ∧ match se with
      | .normal => ∃ g', p g' ∧ μ g' < μ g ∧ Ent n s' ⟨mkT keep (vars g') 0 s.T, heap g' s.H, s.D⟩
      | se => K se s') : CodeP P r n (.loop c) s K := by
  rw [fcSt_eq] at round
  refine codeP_loop (fun g => ⟨mkT keep (vars g) 0 s.T, heap g s.H, s.D⟩) p μ g0 h0 he fun g hg => ?_
  have := round g hg
  rw [fcSt_eq] at this
  exact codeP_X hE this

theorem ent_tau {n : Nat} {s t : St} (τ : List Nat) (h : fcSt s fun s => fcSt t fun t => Fits (sel τ s.H.length) s.H τ t.H ∧ TmLe (sel τ s.H.length) s.T t.T ∧ s.D = renL (sel τ s.H.length) t.D)
    (hap : apartB τ t.H = true := by rfl) (hfx : fixB n τ = true := by rfl) : Ent n s t := by
  rw [fcSt_eq, fcSt_eq] at h
  exact ent_of τ h.1 h.2.1 h.2.2 hap hfx
end Go.Sy
/-
  Sy17: regions that draw their order, inside a fence: an operation that yields its value in every world that meets a condition may be taken first. No program is named.
  (Turned from the kit's OrdersIn and OrdersHeld: the two together.)
-/
namespace Go.Sy

section
variable {F : Fence} {n : Nat} {P : Program} {ops : Array Oper} {Q : Exit → Act → World → Prop} {md : Region.Mode} {S : World → Prop}

theorem semAt_put (o : Oper) (hs : ∀ cs b, o.op ≠ .select cs b) (a : Act) (dst : Option Tmp) (v : Value) (h : ∀ d, dst = some d → d ∉ o.looksAt ops) (r : Option Nat) :
    o.semAt r (a.put dst v).eval = o.semAt r a.eval := by
  unfold Oper.semAt
  split
  · rename_i l c ho
    rw [resolve_congr (ρ := (a.put dst v).eval) (ρ' := a.eval) c o.type (fun x hx => Act.eval_put fun d hd hxd => h d hd (by
      subst hxd
      exact List.mem_append_left _ (List.mem_filterMap.2 ⟨.tmp d, by rw [ho]; simpa [Op.operands] using hx, rfl⟩)))]
  · exact execOp_put o hs a dst v h

/-- In state a, in every world that meets S, the operation leaves v in its temporary and does nothing else. -/
def YieldsS (r : Option Nat) (P : Program) (ops : Array Oper) (S : World → Prop) (o : Oper) (v : Value) (a : Act) : Prop :=
  (Region.wanted o (yielded ops a.tmps) = true ∧ ∀ w, S w → (o.semAt r a.eval).run P w = .ok (.value v) w) ∨ (Region.wanted o (yielded ops a.tmps) = false ∧ v = undef)

theorem YieldsS.wpOpIn {i : Nat} {o : Oper} {v : Value} {a : Act} (hfn : ∀ f, F.fn f) (hi : ops[i]? = some o) (hy : YieldsS F.round P ops S o v a)
    {K : Act → World → Prop} {w : World} (hS : S w) (h : K (a.put o.dst v) w) : wpOpIn F n P ops Q i K a w := by
  unfold Go.wpOpIn
  simp only [hi]
  rcases hy with ⟨hw, hv⟩ | ⟨hw, rfl⟩
  · simp only [hw, if_true, Oper.wpIn, hv w hS, Oper.uponIn]; exact ⟨fun _ _ => hfn _, h⟩
  · simp only [hw, Bool.false_eq_true, if_false]; exact ⟨fun _ _ => hfn _, h⟩

theorem YieldsS.of_same {r : Option Nat} {o : Oper} {v : Value} {a a' : Act} (hy : YieldsS r P ops S o v a) (he : o.semAt r a'.eval = o.semAt r a.eval)
    (hw : Region.wanted o (yielded ops a'.tmps) = Region.wanted o (yielded ops a.tmps)) : YieldsS r P ops S o v a' := by
  unfold YieldsS at *
  rw [he, hw]
  exact hy

theorem wpOpIn_putS {j : Nat} {oi oj : Oper} {v : Value} (hfn : ∀ f, F.fn f) (hj : ops[j]? = some oj) (hap : oi.apart ops oj = true)
    (hsi : ∀ cs b, oi.op ≠ .select cs b) (hsj : ∀ cs b, oj.op ≠ .select cs b)
    (hQ : ∀ c a w, Q (.panic c) (a.put oi.dst v) w → Q (.panic c) a w) {K : Act → World → Prop} {a : Act} {w : World}
    (hy : YieldsS F.round P ops S oi v a) (h : wpOpIn F n P ops Q j K (a.put oi.dst v) w) :
    wpOpIn F n P ops Q j (fun a' w' => YieldsS F.round P ops S oi v a' ∧ K (a'.put oi.dst v) w') a w := by
  obtain ⟨h1, h2, h3⟩ := Oper.apart_spec hap
  have keep : ∀ (a : Act), YieldsS F.round P ops S oi v a → ∀ u, YieldsS F.round P ops S oi v (a.put oj.dst u) := fun a hy u =>
    hy.of_same (semAt_put oi hsi a oj.dst u h3 _) (wanted_put oi a oj.dst u h3)
  have keepD : ∀ d, YieldsS F.round P ops S oi v { a with defers := d :: a.defers } := fun d => hy.of_same rfl rfl
  unfold wpOpIn at *
  simp only [hj] at *
  rw [wanted_put oj a oi.dst v h1] at h
  split
  · rename_i hw
    simp only [hw, if_true] at h
    unfold Oper.wpIn at *
    refine ⟨fun _ _ => hfn _, ?_⟩
    have h := h.2
    rw [semAt_put oj hsj a oi.dst v h1] at h
    generalize (oj.semAt F.round a.eval).run P w = r at *
    cases r with
    | ok x w' =>
      cases x <;> simp only [Oper.uponIn] at h ⊢
      case value u => exact ⟨keep a hy u, by rw [← Act.put_comm a v u h2]; exact h⟩
      case skip => exact ⟨keep a hy _, by rw [← Act.put_comm a v undef h2]; exact h⟩
      case defer d =>
        refine ⟨keep _ (keepD d) _, ?_⟩
        rw [← Act.put_comm _ v undef h2, ← Act.put_defers]
        exact h
      case enter f args =>
        refine ⟨h.1, CallsIn.mono h.2 fun e w'' he => ?_⟩
        cases e with
        | returned u => exact ⟨keep a hy u, by rw [← Act.put_comm a v u h2]; exact he⟩
        | panicked c => exact hQ _ _ _ he
        | outgrown => exact he
      case row row args => exact ⟨h.1, RowsIn.mono h.2 fun u w'' he => ⟨keep a hy u, by rw [← Act.put_comm a v u h2]; exact he⟩⟩
      case round l f tmps assign body =>
        refine ⟨h.1, RoundIn.mono h.2 fun e w'' he => ?_⟩
        cases e with
        | returned u => exact ⟨keep a hy u, by rw [← Act.put_comm a v u h2]; exact he⟩
        | panicked c => exact hQ _ _ _ he
        | outgrown => exact he
    | halt x w' =>
      cases x <;> simp only [Oper.uponIn] at h ⊢
      case panic u => exact hQ _ _ _ h
  · rename_i hw
    simp only [hw] at h
    exact ⟨fun _ _ => hfn _, keep a hy _, by rw [← Act.put_comm a v undef h2]; exact h.2⟩

/-- Whatever order is picked from here on, and S holds behind every operation that is carried out. -/
def wpAnyS (F : Fence) (n : Nat) (P : Program) (md : Region.Mode) (ops : Array Oper) (Q : Exit → Act → World → Prop) (S : World → Prop) : Nat → Array Bool → Act → World → Prop
  | 0, listed, a, w => Region.ready md ops listed = [] ∧ Q .normal a w
  | fuel + 1, listed, a, w =>
    (Region.ready md ops listed = [] → Q .normal a w) ∧
    ∀ i ∈ Region.ready md ops listed, wpOpIn F n P ops Q i (fun a' w' => S w' ∧ wpAnyS F n P md ops Q S fuel (listed.setIfInBounds i true) a' w') a w

theorem wpAnyIn_of_S : ∀ (fuel : Nat) (listed : Array Bool) (a : Act) (w : World), wpAnyS F n P md ops Q S fuel listed a w → wpAnyIn F n P md ops Q fuel listed a w
  | 0, _, _, _, h => h
  | fuel + 1, _, _, _, h => ⟨h.1, fun i hi => wpOpIn_mono (fun a' w' h' => wpAnyIn_of_S fuel _ a' w' h'.2) (h.2 i hi)⟩

theorem wpAnyS_first {i : Nat} {oi : Oper} {v : Value} (hfn : ∀ f, F.fn f) (hi : ops[i]? = some oi) (hsel : ∀ (j : Nat) (o : Oper) cs b, ops[j]? = some o → o.op ≠ .select cs b)
    (hQ : ∀ c a w, Q (.panic c) (a.put oi.dst v) w → Q (.panic c) a w) :
    ∀ (fuel : Nat) (listed : Array Bool) (a : Act) (w : World),
      (∀ j oj, ops[j]? = some oj → j ≠ i → listed.getD j true = false → (∀ e ∈ oj.after, Region.binds md e = true → e.on ≠ i) → oi.apart ops oj = true) →
      i ∈ Region.ready md ops listed → YieldsS F.round P ops S oi v a → S w →
      wpAnyS F n P md ops Q S fuel (listed.setIfInBounds i true) (a.put oi.dst v) w → wpAnyS F n P md ops Q S (fuel + 1) listed a w := by
  intro fuel
  induction fuel with
  | zero =>
    intro listed a w _ hr hy hS H
    refine ⟨fun h => (by rw [h] at hr; cases hr), fun j hj => ?_⟩
    by_cases hji : j = i
    · subst hji; exact hy.wpOpIn hfn hi hS ⟨hS, H⟩
    · have := ready_mono hj hji
      rw [H.1] at this
      cases this
  | succ fuel ih =>
    intro listed a w hfree hr hy hS H
    refine ⟨fun h => (by rw [h] at hr; cases hr), fun j hj => ?_⟩
    by_cases hji : j = i
    · subst hji; exact hy.wpOpIn hfn hi hS ⟨hS, H⟩
    · have h1 := H.2 j (ready_mono hj hji)
      obtain ⟨hjun, oj, hoj, hall⟩ := mem_ready.1 hj
      have hnot : ∀ e ∈ oj.after, Region.binds md e = true → e.on ≠ i := fun e he hb heq => by
        have h1 := hall e he hb
        have h0 := (mem_ready.1 hr).1
        rw [heq] at h1
        rcases Nat.lt_or_ge i listed.size with h' | h'
        · simp [h'] at h0 h1; rw [h0] at h1; cases h1
        · simp [Array.getElem?_eq_none h'] at h1
      have h2 := wpOpIn_putS hfn hoj (hfree j oj hoj hji hjun hnot) (fun cs b => hsel i oi cs b hi) (fun cs b => hsel j oj cs b hoj) hQ hy h1
      have hfree' : ∀ k ok, ops[k]? = some ok → k ≠ i → (listed.setIfInBounds j true).getD k true = false →
          (∀ e ∈ ok.after, Region.binds md e = true → e.on ≠ i) → oi.apart ops ok = true := fun k ok hk hki hun hno => by
        refine hfree k ok hk hki ?_ hno
        by_cases hjk : j = k
        · subst hjk; exact hjun
        · rw [getD_set_ne true hjk] at hun; exact hun
      refine wpOpIn_mono (fun a' w' h3 => ⟨h3.2.1, ih (listed.setIfInBounds j true) a' w' hfree' (ready_mono hr (Ne.symm hji)) h3.1 h3.2.1 ?_⟩) h2
      rw [Array.setIfInBounds_comm _ _ hji]
      exact h3.2.2
end
end Go.Sy
/-
  Sy18: while a region is carried out some blocks are locked: they are only read, and stay what they are. No program is named.
-/
namespace Go.Sy

def lockO : SObj → SObj
  | .dead => .dead
  | .cells cs => .roc cs
  | .arr sz n _ get => .roa sz n get
  | .roc cs => .roc cs
  | .roa sz n get => .roa sz n get
  | .glob g cs => .glob g cs
  | .obj I => .obj I
  | .ext R => .ext R
  | .memo n F has => .memo n F has
  | .loopr T ps a b st p => .loopr T ps a b st p
  | .vec sz n get => .vec sz n get
  | .cmap m => .cmap m
  | .citer l c => .citer l c
  | .pool _ n l g => .pool false n l g
theorem lockO_rw {o : SObj} (h : (lockO o).rw = true) : o.rw = true := by cases o <;> simp_all [lockO, SObj.rw]
theorem lockO_foot (o : SObj) (a : Nat × Nat) (F : Nat → Prop) (b : Nat) : (lockO o).foot a F b ↔ o.foot a F b := by cases o <;> rfl
theorem lockO_holds {o : SObj} {η : Nam} {a : Nat × Nat} {F : Nat → Prop} {w : World} (h : o.holds η a F w) : (lockO o).holds η a F w := by
  cases o <;> try exact h
  case cells cs =>
    simp only [SObj.holds, lockO] at h ⊢
    obtain ⟨h0, T, vs, hd, hw⟩ := h
    exact ⟨vs.toArray, T, (0, 0), vs, hw, hd, fun j v hj => by rw [h0]; simpa using hj⟩
  case arr sz n cap get =>
    simp only [SObj.holds, lockO] at h ⊢
    obtain ⟨h0, T, c, h1, h2, h3, h4⟩ := h
    refine ⟨c, T, (0, 0), h1, fun k hk => ?_⟩
    obtain ⟨vs, p, q, r⟩ := h4 k hk
    exact ⟨vs, p, q, fun j v hj => by rw [h0, Nat.zero_add]; exact r j v hj⟩

/-- The second heap is the first one with some blocks locked. -/
def Locks : SHeap → SHeap → Prop
  | [], [] => True
  | none :: h, none :: h1 => Locks h h1
  | some o :: h, some o1 :: h1 => (o1 = o ∨ o1 = lockO o) ∧ Locks h h1
  | _, _ => False
theorem Locks.get : ∀ {h h1 : SHeap}, Locks h h1 → h.length = h1.length ∧ ∀ (i : Nat) (o1 : SObj), h1[i]? = some (some o1) → ∃ o, h[i]? = some (some o) ∧ (o1 = o ∨ o1 = lockO o)
  | [], [], _ => ⟨rfl, fun i o e => by simp at e⟩
  | [], none :: _, h | [], some _ :: _, h | none :: _, [], h | some _ :: _, [], h | none :: _, some _ :: _, h | some _ :: _, none :: _, h => h.elim
  | none :: h, none :: h1, hl => by
    obtain ⟨e, hg⟩ := Locks.get (h := h) (h1 := h1) hl
    refine ⟨by simp [e], fun i o1 ho => ?_⟩
    cases i with
    | zero => simp at ho
    | succ i => simpa using hg i o1 (by simpa using ho)
  | some o :: h, some o1 :: h1, hl => by
    obtain ⟨h0, hl⟩ := hl
    obtain ⟨e, hg⟩ := Locks.get hl
    refine ⟨by simp [e], fun i o1' ho => ?_⟩
    cases i with
    | zero => simp at ho; subst ho; exact ⟨o, rfl, h0⟩
    | succ i => simpa using hg i o1' (by simpa using ho)
theorem Locks.get2 : ∀ {h h1 : SHeap}, Locks h h1 → ∀ (i : Nat) (o : SObj), h[i]? = some (some o) → ∃ o1, h1[i]? = some (some o1) ∧ (o1 = o ∨ o1 = lockO o)
  | [], [], _, i, o, e => by simp at e
  | [], none :: _, h, _, _, _ | [], some _ :: _, h, _, _, _ | none :: _, [], h, _, _, _ | some _ :: _, [], h, _, _, _ | none :: _, some _ :: _, h, _, _, _ | some _ :: _, none :: _, h, _, _, _ => h.elim
  | none :: h, none :: h1, hl, i, o, ho => by
    cases i with
    | zero => simp at ho
    | succ i => simpa using Locks.get2 (h := h) (h1 := h1) hl i o (by simpa using ho)
  | some o :: h, some o1 :: h1, hl, i, o', ho => by
    cases i with
    | zero => simp at ho; subst ho; exact ⟨o1, rfl, hl.1⟩
    | succ i => simpa using Locks.get2 hl.2 i o' (by simpa using ho)

def lockH (ks : List Nat) : Nat → SHeap → SHeap
  | _, [] => []
  | i, none :: h => none :: lockH ks (i + 1) h
  | i, some o :: h => some (match memT ks i with | true => lockO o | false => o) :: lockH ks (i + 1) h
theorem lockH_ok (ks : List Nat) : ∀ (i : Nat) (h : SHeap), Locks h (lockH ks i h)
  | _, [] => trivial
  | i, none :: h => lockH_ok ks (i + 1) h
  | i, some o :: h => ⟨by cases memT ks i <;> simp, lockH_ok ks (i + 1) h⟩

/-- Blocks that are read only become what they were. -/
def unlH : SHeap → SHeap → SHeap → SHeap
  | x :: h, y :: h1, z :: h' => (match y with
    | some o => match o.rw with
      | true => z
      | false => x
    | none => x) :: unlH h h1 h'
  | _, _, h' => h'
theorem unlH_length : ∀ {h h1 h' : SHeap}, (unlH h h1 h').length = h'.length
  | _ :: h, _ :: h1, _ :: h' => by simp [unlH, unlH_length (h := h) (h1 := h1) (h' := h')]
  | [], _, _ => by simp [unlH]
  | _ :: _, [], _ => by simp [unlH]
  | _ :: _, _ :: _, [] => by simp [unlH]
theorem unlH_get : ∀ {h h1 h' : SHeap} {i : Nat} {x : Option SObj}, h.length = h1.length → (unlH h h1 h')[i]? = some x → (rwAt h1 i = true ∧ h'[i]? = some x) ∨ (h.length ≤ i ∧ h'[i]? = some x) ∨ (i < h.length ∧ rwAt h1 i = false ∧ h[i]? = some x)
  | y :: h, y1 :: h1, z :: h', i, x, hl, e => by
    cases i with
    | zero =>
      simp only [unlH, List.getElem?_cons_zero, Option.some.injEq] at e
      cases y1 with
      | none => exact .inr (.inr ⟨by simp, rfl, by simpa using e⟩)
      | some o =>
        simp only at e
        cases ho : o.rw with
        | true => rw [ho] at e; exact .inl ⟨by simp [rwAt, ho], by simpa using e⟩
        | false => rw [ho] at e; exact .inr (.inr ⟨by simp, by simp [rwAt, ho], by simpa using e⟩)
    | succ i =>
      simp only [unlH, List.getElem?_cons_succ] at e
      rcases unlH_get (by simpa using hl) e with ⟨h1, h2⟩ | ⟨h1, h2⟩ | ⟨h1, h2, h3⟩
      · exact .inl ⟨by simpa [rwAt] using h1, by simpa using h2⟩
      · exact .inr (.inl ⟨by simpa using h1, by simpa using h2⟩)
      · exact .inr (.inr ⟨by simpa using h1, by simpa [rwAt] using h2, by simpa using h3⟩)
  | [], [], h', i, x, _, e => .inr (.inl ⟨Nat.zero_le _, by simpa [unlH] using e⟩)
  | [], _ :: _, h', i, x, hl, e => by simp at hl
  | _ :: _, [], h', i, x, hl, e => by simp at hl
  | _ :: _, _ :: _, [], i, x, _, e => by simp [unlH] at e

/-- The footprint of what is locked, or was read only before: outside Ef1, and old. -/
structure Still (η : Nam) (h1 : SHeap) (w1 : World) (Ef1 : Nat → Prop) : Prop where
  ro : ∀ (i : Nat) (o : SObj) (a : Nat × Nat) (F : Nat → Prop) (b : Nat), h1[i]? = some (some o) → o.rw = false → η i = some a → o.foot a F b → b < w1.heap.size ∧ ¬ Ef1 b

theorem foot_ro {o : SObj} (h : o.rw = false) {a : Nat × Nat} {F F' : Nat → Prop} {b : Nat} (hf : o.foot a F b) : o.foot a F' b := by
  cases o <;> first | exact hf | simp [SObj.rw] at h

theorem Sat.lock {η : Nam} {φ : Feet} {h h1 : SHeap} {w0 : World} {Ef : Nat → Prop} {w : World} (hs : Sat η φ h w0 Ef w) (hl : Locks h h1) :
    ∃ Ef1 : Nat → Prop, Sat η φ h1 w Ef1 w ∧ Still η h1 w Ef1 ∧ (∀ b, Ef1 b → ∃ i o a, h1[i]? = some (some o) ∧ o.rw = true ∧ η i = some a ∧ o.foot a (φ i) b) := by
  obtain ⟨hlen, hg⟩ := hl.get
  have foot : ∀ (i : Nat) (o1 o : SObj), h1[i]? = some (some o1) → h[i]? = some (some o) → (o1 = o ∨ o1 = lockO o) → (∀ a F b, o1.foot a F b ↔ o.foot a F b) ∧ (o1.rw = true → o.rw = true) := fun i o1 o _ _ ho => by
    rcases ho with rfl | rfl
    · exact ⟨fun _ _ _ => Iff.rfl, id⟩
    · exact ⟨fun a F b => lockO_foot o a F b, lockO_rw⟩
  refine ⟨fun b => ∃ i o a, h1[i]? = some (some o) ∧ o.rw = true ∧ η i = some a ∧ o.foot a (φ i) b, ?_, ⟨?_⟩, fun b hb => hb⟩
  · exact
    { size := Nat.le_refl _
      env := .refl w
      keep := fun _ _ _ => rfl
      dom := fun i a e => by
        obtain ⟨o, ho⟩ := hs.dom i a e
        obtain ⟨o1, h2, _⟩ := hl.get2 i o ho
        exact ⟨o1, h2⟩
      named := fun i o1 e => by
        obtain ⟨o, ho, _⟩ := hg i o1 e
        exact hs.named i o ho
      holds := fun i o1 a e ea => by
        obtain ⟨o, ho, rfl | rfl⟩ := hg i o1 e
        · exact hs.holds i _ a ho ea
        · exact lockO_holds (hs.holds i o a ho ea)
      bnd := fun i o1 a b e ea hb => by
        obtain ⟨o, ho, hx⟩ := hg i o1 e
        exact hs.bnd i o a b ho ea (((foot i o1 o e ho hx).1 a _ b).1 hb)
      own := fun i o1 a b e ea er hb => .inl ⟨i, o1, a, e, er, ea, hb⟩
      sep := fun i j oi oj ai aj b hij ei ej eai eaj er hb hbj => by
        obtain ⟨o, ho, hx⟩ := hg i oi ei
        obtain ⟨o', ho', hx'⟩ := hg j oj ej
        exact hs.sep i j o o' ai aj b hij ho ho' eai eaj ((foot i oi o ei ho hx).2 er) (((foot i oi o ei ho hx).1 ai _ b).1 hb) (((foot j oj o' ej ho' hx').1 aj _ b).1 hbj) }
  · intro j oj aj F b ej erj eaj hbj
    have hbj' := foot_ro (F' := φ j) erj hbj
    obtain ⟨o', ho', hx'⟩ := hg j oj ej
    refine ⟨hs.bnd j o' aj b ho' eaj (((foot j oj o' ej ho' hx').1 aj _ b).1 hbj'), ?_⟩
    rintro ⟨i, oi, ai, ei, er, eai, hb⟩
    obtain ⟨o, ho, hx⟩ := hg i oi ei
    by_cases hij : i = j
    · subst hij; rw [ei] at ej; cases ej; rw [er] at erj; cases erj
    · exact hs.sep i j o o' ai aj b hij ho ho' eai eaj ((foot i oi o ei ho hx).2 er) (((foot i oi o ei ho hx).1 ai _ b).1 hb) (((foot j oj o' ej ho' hx').1 aj _ b).1 hbj')

theorem Sat.unlock {η : Nam} {φ : Feet} {h h1 : SHeap} {w0 : World} {Ef : Nat → Prop} {w : World} (hs : Sat η φ h w0 Ef w) (hl : Locks h h1) {Ef1 : Nat → Prop}
    (hE : ∀ b, Ef1 b → ∃ i o a, h1[i]? = some (some o) ∧ o.rw = true ∧ η i = some a ∧ o.foot a (φ i) b) {η' : Nam} {φ' : Feet} {h' : SHeap} {w' : World} (hp : Pin h.length η η') (hs' : Sat η' φ' h' w Ef1 w') (ho : Own h1 h') :
    ∃ φ'', Sat η' φ'' (unlH h h1 h') w0 Ef w' := by
  obtain ⟨hlen, hg⟩ := hl.get
  have hle : η.le η' := Nam.le_of_pin hs hp
  have hkeep : ∀ b, b < w.heap.size → (∀ i o a, h1[i]? = some (some o) → o.rw = true → η i = some a → ¬ o.foot a (φ i) b) → w'.heap[b]? = w.heap[b]? := fun b hb hn =>
    hs'.keep b hb fun he => by obtain ⟨i, o, a, e1, e2, e3, e4⟩ := hE b he; exact hn i o a e1 e2 e3 e4
  have hEf : ∀ b, Ef1 b → Ef b ∨ w0.heap.size ≤ b := fun b hb => by
    obtain ⟨i, o1, a, e1, e2, e3, e4⟩ := hE b hb
    obtain ⟨o, ho, hx⟩ := hg i o1 e1
    rcases hx with rfl | rfl
    · exact hs.own i _ a b ho e3 e2 e4
    · exact hs.own i o a b ho e3 (lockO_rw e2) ((lockO_foot o a _ b).1 e4)
  -- a block that is as before, and a block that is carried on
  let old : Nat → Prop := fun i => i < h.length ∧ rwAt h1 i = false
  have hcase : ∀ i o, (unlH h h1 h')[i]? = some (some o) → (¬ old i ∧ h'[i]? = some (some o) ∧ (o.rw = true ∨ o = .dead)) ∨ (old i ∧ h[i]? = some (some o) ∧ η' i = η i) := fun i o e => by
    rcases unlH_get hlen e with ⟨p1, p2⟩ | ⟨p1, p2⟩ | ⟨p1, p2, p3⟩
    · exact .inl ⟨fun hx => (by rw [hx.2] at p1; cases p1), p2, ho i o (.inr p1) p2⟩
    · exact .inl ⟨fun hx => (by have := hx.1; omega), p2, ho i o (.inl (by omega)) p2⟩
    · exact .inr ⟨⟨p1, p2⟩, p3, hp i p1⟩
  classical
  let φ'' : Feet := fun i => if old i then φ i else φ' i
  have f1 : ∀ i, old i → φ'' i = φ i := fun i hi => if_pos hi
  have f2 : ∀ i, ¬ old i → φ'' i = φ' i := fun i hi => if_neg hi
  have hdisj : ∀ i o a b, old i → h[i]? = some (some o) → η i = some a → o.foot a (φ i) b → ∀ j o1 aj, h1[j]? = some (some o1) → o1.rw = true → η j = some aj → ¬ o1.foot aj (φ j) b := fun i o a b hi ho' ea hb j o1 aj ej er eaj hbj => by
    have hij : j ≠ i := fun e => by
      subst e
      have := hi.2
      simp [rwAt, ej, er] at this
    obtain ⟨oj, hoj, hx⟩ := hg j o1 ej
    rcases hx with rfl | rfl
    · exact hs.sep j i _ o aj a b hij hoj ho' eaj ea er hbj hb
    · exact hs.sep j i oj o aj a b hij hoj ho' eaj ea (lockO_rw er) ((lockO_foot oj aj _ b).1 hbj) hb
  refine ⟨φ'', ?_⟩
  exact
    { size := Nat.le_trans hs.size hs'.size
      env := hs.env.trans hs'.env
      keep := fun b hb he => by
        rw [hs'.keep b (Nat.lt_of_lt_of_le hb hs.size) fun hx => ?_]
        · exact hs.keep b hb he
        · rcases hEf b hx with h1 | h1
          · exact he h1
          · omega
      dom := fun i a e => by
        obtain ⟨o', ho'⟩ := hs'.dom i a e
        have hi : i < (unlH h h1 h').length := by rw [unlH_length]; exact lt_of_get ho'
        obtain ⟨x, hx⟩ : ∃ x, (unlH h h1 h')[i]? = some x := ⟨_, List.getElem?_eq_getElem hi⟩
        rcases unlH_get hlen hx with ⟨p1, p2⟩ | ⟨p1, p2⟩ | ⟨p1, p2, p3⟩
        · rw [ho'] at p2; cases p2; exact ⟨o', hx⟩
        · rw [ho'] at p2; cases p2; exact ⟨o', hx⟩
        · rw [hp i p1] at e
          obtain ⟨o, ho2⟩ := hs.dom i a e
          rw [ho2] at p3; cases p3; exact ⟨o, hx⟩
      named := fun i o e => by
        rcases hcase i o e with ⟨_, p2, _⟩ | ⟨_, p2, p3⟩
        · exact hs'.named i o p2
        · rw [p3]; exact hs.named i o p2
      holds := fun i o a e ea => by
        rcases hcase i o e with ⟨p1, p2, _⟩ | ⟨p1, p2, p3⟩
        · rw [f2 i p1]; exact hs'.holds i o a p2 ea
        · rw [f1 i p1]
          rw [p3] at ea
          exact SObj.holds_mono hle (SObj.holds_local (hs.holds i o a p2 ea) fun b hb => hkeep b (hs.bnd i o a b p2 ea hb) (hdisj i o a b p1 p2 ea hb))
      bnd := fun i o a b e ea hb => by
        rcases hcase i o e with ⟨p1, p2, _⟩ | ⟨p1, p2, p3⟩
        · rw [f2 i p1] at hb; exact hs'.bnd i o a b p2 ea hb
        · rw [f1 i p1] at hb
          rw [p3] at ea
          exact Nat.lt_of_lt_of_le (hs.bnd i o a b p2 ea hb) hs'.size
      own := fun i o a b e ea er hb => by
        rcases hcase i o e with ⟨p1, p2, _⟩ | ⟨p1, p2, p3⟩
        · rw [f2 i p1] at hb
          rcases hs'.own i o a b p2 ea er hb with h1 | h1
          · exact hEf b h1
          · exact .inr (Nat.le_trans hs.size h1)
        · rw [f1 i p1] at hb
          rw [p3] at ea
          exact hs.own i o a b p2 ea er hb
      sep := fun i j oi oj ai aj b hij ei ej eai eaj er hb hbj => by
        rcases hcase i oi ei with ⟨p1, p2, _⟩ | ⟨p1, p2, p3⟩
        · rw [f2 i p1] at hb
          rcases hcase j oj ej with ⟨q1, q2, _⟩ | ⟨q1, q2, q3⟩
          · rw [f2 j q1] at hbj
            exact hs'.sep i j oi oj ai aj b hij p2 q2 eai eaj er hb hbj
          · rw [f1 j q1] at hbj
            rw [q3] at eaj
            rcases hs'.own i oi ai b p2 eai er hb with h2 | h2
            · obtain ⟨k, ok, ak, e1, e2, e3, e4⟩ := hE b h2
              exact hdisj j oj aj b q1 q2 eaj hbj k ok ak e1 e2 e3 e4
            · have := hs.bnd j oj aj b q2 eaj hbj; omega
        · rw [f1 i p1] at hb
          rw [p3] at eai
          rcases hcase j oj ej with ⟨q1, q2, hq⟩ | ⟨q1, q2, q3⟩
          · rw [f2 j q1] at hbj
            rcases hq with hq | rfl
            · rcases hs'.own j oj aj b q2 eaj hq hbj with h2 | h2
              · obtain ⟨k, ok, ak, e1, e2, e3, e4⟩ := hE b h2
                exact hdisj i oi ai b p1 p2 eai hb k ok ak e1 e2 e3 e4
              · have := hs.bnd i oi ai b p2 eai hb; omega
            · exact hbj
          · rw [f1 j q1] at hbj
            rw [q3] at eaj
            exact hs.sep i j oi oj ai aj b hij p2 q2 eai eaj er hb hbj }

/-- What is written is masked. -/
def maskH : SHeap → SHeap
  | [] => []
  | none :: h => none :: maskH h
  | some o :: h => some (match o.rw with | true => .dead | false => o) :: maskH h
theorem maskH_get : ∀ {h : SHeap} {i : Nat} {o : SObj}, (maskH h)[i]? = some (some o) → o.rw = false ∧ ∃ o', h[i]? = some (some o') ∧ (o = .dead ∨ (o = o'))
  | [], i, o, e => by simp [maskH] at e
  | none :: h, i, o, e => by
    cases i with
    | zero => simp [maskH] at e
    | succ i => simpa using maskH_get (h := h) (i := i) (o := o) (by simpa [maskH] using e)
  | some o' :: h, i, o, e => by
    cases i with
    | zero =>
      simp only [maskH, List.getElem?_cons_zero, Option.some.injEq] at e
      subst e
      cases ho : o'.rw with
      | true => exact ⟨rfl, o', rfl, .inl rfl⟩
      | false => exact ⟨ho, o', rfl, .inr rfl⟩
    | succ i => simpa using maskH_get (h := h) (i := i) (o := o) (by simpa [maskH] using e)
theorem maskH_get2 : ∀ {h : SHeap} {i : Nat} {o : SObj}, h[i]? = some (some o) → ∃ o', (maskH h)[i]? = some (some o')
  | [], i, o, e => by simp at e
  | none :: h, i, o, e => by
    cases i with
    | zero => simp at e
    | succ i => simpa [maskH] using maskH_get2 (h := h) (i := i) (o := o) (by simpa using e)
  | some o' :: h, i, o, e => by
    cases i with
    | zero => exact ⟨_, rfl⟩
    | succ i => simpa [maskH] using maskH_get2 (h := h) (i := i) (o := o) (by simpa using e)

/-- As far as the old blocks go, w is w1. -/
def SameOld (w1 : World) (Ef1 : Nat → Prop) (w : World) : Prop := w1.heap.size ≤ w.heap.size ∧ (∀ b, b < w1.heap.size → ¬ Ef1 b → w.heap[b]? = w1.heap[b]?) ∧ SameEnv w1 w

theorem Sat.mask {η : Nam} {φ : Feet} {h : SHeap} {w1 : World} {Ef1 : Nat → Prop} {w w' : World} (hs : Sat η φ h w1 Ef1 w) (hst : Still η h w1 Ef1) (hw : SameOld w1 Ef1 w') : Sat η φ (maskH h) w1 Ef1 w' :=
  { size := hw.1
    env := hw.2.2
    keep := fun b hb he => hw.2.1 b hb he
    dom := fun i a e => by obtain ⟨o, ho⟩ := hs.dom i a e; exact maskH_get2 ho
    named := fun i o e => by obtain ⟨_, o', h1, _⟩ := maskH_get e; exact hs.named i o' h1
    holds := fun i o a e ea => by
      obtain ⟨hr, o', h1, rfl | rfl⟩ := maskH_get e
      · exact trivial
      · refine SObj.holds_local (hs.holds i _ a h1 ea) fun b hb => ?_
        obtain ⟨p1, p2⟩ := hst.ro i _ a _ b h1 hr ea hb
        rw [hw.2.1 b p1 p2, hs.keep b p1 p2]
    bnd := fun i o a b e ea hb => by
      obtain ⟨hr, o', h1, rfl | rfl⟩ := maskH_get e
      · exact hb.elim
      · exact Nat.lt_of_lt_of_le (hst.ro i _ a _ b h1 hr ea hb).1 hw.1
    own := fun i o a b e ea er hb => by obtain ⟨hr, _⟩ := maskH_get e; rw [hr] at er; cases er
    sep := fun i j oi oj ai aj b hij ei ej eai eaj er hb hbj => by obtain ⟨hr, _⟩ := maskH_get ei; rw [hr] at er; cases er }

def poolB : SObj → Bool
  | .pool .. => true
  | _ => false
def poolY : Option SObj → Bool
  | some o => poolB o
  | none => false
def eqB : Bool → Bool → Bool
  | true, b => b
  | false, b => !b
/-- New blocks are no read-only ones. -/
def roB : SHeap → SHeap → Bool
  | some o :: h1, y :: h => (ownO y || (!o.rw && (!(match o with | .dead => true | _ => false) && eqB (poolB o) (poolY y)))) && roB h1 h
  | none :: h1, y :: h => ownO y && roB h1 h
  | [], y :: h => ownO y && roB [] h
  | _, [] => true
theorem roB_get : ∀ {h1 h : SHeap} {i : Nat} {o : SObj}, roB h1 h = true → h[i]? = some (some o) → o.rw = false → o = .dead ∨ ∃ o1, h1[i]? = some (some o1) ∧ o1.rw = false ∧ ∀ a F b, o.foot a F b → o1.foot a F b
  | some o1 :: h1, y :: h, i, o, hr, e, ho => by
    simp only [roB, Bool.and_eq_true, Bool.or_eq_true, Bool.not_eq_true'] at hr
    cases i with
    | zero =>
      simp at e; subst e
      rcases hr.1 with h2 | ⟨h2, h3, h5⟩
      · rcases ownO_ok h2 with h4 | h4
        · rw [ho] at h4; cases h4
        · exact .inl h4
      · refine .inr ⟨o1, rfl, h2, fun a F b hab => ?_⟩
        cases o1 <;> cases o <;> first | exact hab | (cases h3; done) | (cases h5; done) | (simp [SObj.rw] at h2; done) | (simp [SObj.rw] at ho; done) | exact hab.elim
    | succ i => simpa using roB_get (i := i) hr.2 (by simpa using e) ho
  | none :: h1, y :: h, i, o, hr, e, ho => by
    simp only [roB, Bool.and_eq_true] at hr
    cases i with
    | zero =>
      simp at e; subst e
      rcases ownO_ok hr.1 with h4 | h4
      · rw [ho] at h4; cases h4
      · exact .inl h4
    | succ i => simpa using roB_get (i := i) hr.2 (by simpa using e) ho
  | [], y :: h, i, o, hr, e, ho => by
    simp only [roB, Bool.and_eq_true] at hr
    cases i with
    | zero =>
      simp at e; subst e
      rcases ownO_ok hr.1 with h4 | h4
      · rw [ho] at h4; cases h4
      · exact .inl h4
    | succ i =>
      rcases roB_get (i := i) hr.2 (by simpa using e) ho with h5 | ⟨o1, h5, _⟩
      · exact .inl h5
      · simp at h5
  | some _ :: _, [], i, o, _, e, _ | none :: _, [], i, o, _, e, _ | [], [], i, o, _, e, _ => by simp at e
theorem still_of {η η' : Nam} {h1 h : SHeap} {w1 : World} {Ef1 : Nat → Prop} (hst : Still η h1 w1 Ef1) (hp : Pin h1.length η η') (hr : roB h1 h = true) : Still η' h w1 Ef1 :=
  ⟨fun i o a F b e er ea hb => by
    rcases roB_get hr e er with rfl | ⟨o1, e1, er1, hf⟩
    · exact hb.elim
    · rw [hp i (lt_of_get e1)] at ea
      exact hst.ro i o1 a F b e1 er1 ea (hf a F b hb)⟩
theorem own_of {h1 h : SHeap} (hr : roB h1 h = true) : Own h1 h := fun i o hi e => by
  cases ho : o.rw with
  | true => exact .inl rfl
  | false =>
    rcases roB_get hr e ho with rfl | ⟨o1, e1, er1, hf⟩
    · exact .inr rfl
    · rcases hi with hi | hi
      · have := lt_of_get e1; omega
      · simp [rwAt, e1, er1] at hi
end Go.Sy
/-
  Sy19: regions that draw their order, by a plan: which operations are taken first, and which may come up. No program is named.
-/
namespace Go.Sy

inductive Plan where
  | done
  | eager (i : Nat) (p : Plan)
  | alt (i : Nat) (p q : Plan)
  | no

def chk (ops : Array Oper) : Plan → Nat → Array Bool → Option (List Nat) → Bool
  | .done, _, l, none => (Region.ready .any ops l).isEmpty
  | .eager i p, f + 1, l, none => (Region.ready .any ops l).contains i && Region.free .any ops l i && chk ops p f (l.setIfInBounds i true) none
  | .alt i p q, f + 1, l, none => match Region.ready .any ops l with
    | j :: rem => Nat.beq i j && chk ops p f (l.setIfInBounds i true) none && chk ops q (f + 1) l (some rem)
    | [] => false
  | .alt i p q, f + 1, l, some (j :: rem) => Nat.beq i j && chk ops p f (l.setIfInBounds i true) none && chk ops q (f + 1) l (some rem)
  | .no, _, _, some [] => true
  | _, _, _, _ => false
def checkPlan (ops : Array Oper) (p : Plan) : Bool := Region.noSelect ops && chk ops p ops.size (Array.replicate ops.size false) none

def eagerOp (E : Env) (ops : List Oper) (o : Oper) (T : Tm) (Hm : SHeap) : Option (Option Bool × SV × List Prop) :=
  match guardOf ops o T with
  | none => none
  | some G => match pickOf o.op with
    | some (c, a, b) => match ldG T Hm c, ldG T Hm a, ldG T Hm b with
      | some (gc, .bool cv), some (ga, av), some (gb, bv) => some (G, selV cv av bv, [under G (gc.getD true = true), under G (cv = true → ga.getD true = true), under G (cv = false → gb.getD true = true)])
      | _, _, _ => none
    | none => match ev1 E o.op (ldv T Hm) (Hm ++ [none]) Hm.length with
      | some q => match q.wr, q.nw with
        | none, none => some (G, q.v, gObs G T Hm o.op.operands.toList ++ q.ob.map (under G))
        | _, _ => none
      | none => none

theorem eager_ok {E : Env} {P : Program} (hE : E.ok P) {ops : List Oper} {o : Oper} {T : Tm} {Hm : SHeap} {G : Option Bool} {v : SV} {obs : List Prop} (h : eagerOp E ops o T Hm = some (G, v, obs)) (hob : ∀ p ∈ obs, p)
    {η : Nam} {a : Act} (hT : TRel η T a.tmps) {S : World → Prop} (hS : ∀ w, S w → ∃ φ w0 Ef, Sat η φ Hm w0 Ef w) (hex : ∃ w, S w) (r : Option Nat) :
    ∃ u, (G.getD true = true → den η v = some u) ∧ (G.getD true = false → u = undef) ∧ YieldsS r P ops.toArray S o u a := by
  unfold eagerOp at h
  split at h
  · cases h
  · rename_i G' hG
    have hw := guardOf_ok hG hT
    split at h
    · rename_i c x y hp
      have ho : o.op = .pick c x y := by
        unfold pickOf at hp
        split at hp
        · rename_i _ _ _ e
          simp only [Option.some.injEq, Prod.mk.injEq] at hp
          obtain ⟨rfl, rfl, rfl⟩ := hp
          exact e
        · cases hp
      split at h
      · rename_i gc cv ga av gb bv hc hx hy
        simp only [Option.some.injEq, Prod.mk.injEq] at h
        obtain ⟨rfl, rfl, rfl⟩ := h
        have h1 := hob (under _ _) (List.mem_cons_self ..)
        have h2 := hob (under _ _) (List.mem_cons_of_mem _ (List.mem_cons_self ..))
        have h3 := hob (under _ _) (List.mem_cons_of_mem _ (List.mem_cons_of_mem _ (List.mem_cons_self ..)))
        cases hg : G'.getD true with
        | false => exact ⟨undef, fun h => (by cases h), fun _ => rfl, .inr ⟨by rw [hw, hg], rfl⟩⟩
        | true =>
          obtain ⟨w, hSw⟩ := hex
          obtain ⟨φ, w0, Ef, hs⟩ := hS w hSw
          have hdc := ldG_ok hs hT hc (under_ok h1 hg)
          simp only [den, Option.some.injEq] at hdc
          refine ⟨if cv then a.eval x else a.eval y, fun _ => selV_ok (fun hcv => ?_) (fun hcv => ?_), fun h => (by cases h), .inl ⟨by rw [hw, hg], fun w' _ => ?_⟩⟩
          · rw [if_pos hcv]; exact ldG_ok hs hT hx (under_ok h2 hg hcv)
          · rw [if_neg (by simp [hcv])]; exact ldG_ok hs hT hy (under_ok h3 hg hcv)
          · rw [Oper.semAt_eq _ _ _ (fun c' e => by rw [ho] at e; cases e)]
            simp only [execOp, ho, ← hdc, asBool, Sem.run_bind, Sem.run_pure, Result.andThen_ok]
      · cases h
    · split at h
      · rename_i q hq
        split at h
        · rename_i hwr hnw
          simp only [Option.some.injEq, Prod.mk.injEq] at h
          obtain ⟨rfl, rfl, rfl⟩ := h
          cases hg : G'.getD true with
          | false => exact ⟨undef, fun h => (by cases h), fun _ => rfl, .inr ⟨by rw [hw, hg], rfl⟩⟩
          | true =>
            have hsem : o.semAt r a.eval = execOp a.eval o := Oper.semAt_eq _ _ _ (fun c e => by rw [e] at hq; simp [ev1] at hq)
            have h1 : ∀ p ∈ gObs G' T Hm o.op.operands.toList, p := fun p hp => hob p (List.mem_append_left _ hp)
            have h2 : ∀ p ∈ q.ob, p := fun p hp => under_ok (hob (under _ p) (List.mem_append_right _ (List.mem_map.2 ⟨p, hp, rfl⟩))) hg
            have step : ∀ w, S w → ∃ u, (execOp a.eval o).run P w = .ok (.value u) w ∧ den η q.v = some u := fun w hSw => by
              obtain ⟨φ, w0, Ef, hs⟩ := hS w hSw
              have hs1 := hs.room 1
              have hn1 : (Hm ++ List.replicate 1 none)[Hm.length]? = some none := by simp
              obtain ⟨nx, u, w', η', hrun, _, _, _, _, _, hx⟩ := ev1_ok hE hq h2 hs1 hn1 (fun x hx sv hv => by
                obtain ⟨g, hgv⟩ := ldv_ok hv
                exact ldG_ok hs hT hgv (gObs_ok h1 hg x hx g sv hgv))
              obtain ⟨rfl, rfl, hd⟩ := hx hwr hnw
              exact ⟨u, hrun, hd⟩
            obtain ⟨w, hSw⟩ := hex
            obtain ⟨u, _, hd⟩ := step w hSw
            refine ⟨u, fun _ => hd, fun h => (by cases h), .inl ⟨by rw [hw, hg], fun w' hSw' => ?_⟩⟩
            obtain ⟨u', hr', hd'⟩ := step w' hSw'
            rw [hd] at hd'; cases hd'
            rw [hsem]; exact hr'
        · cases h
      · cases h

def planX (E : Env) (P : Program) (r : Option Nat) (h1 : SHeap) (ops : List Oper) : Plan → St → List Prop → KS → Prop
  | .done, s, ob, K => K .normal s ob
  | .no, _, _, _ => True
  | .eager i p, s, ob, K => match ops[i]? with
    | some o => match eagerOp E ops o s.T (maskH s.H) with
      | some (G, v, obs) => fcV v fun v => fcL (putT s.T o.dst (some (G, v))) fun T' => fcP (obs ++ ob) fun ob => whL s.H fun H => whL s.D fun D => planX E P r h1 ops p ⟨T', H, D⟩ ob K
      | none => False
    | none => False
  | .alt i p q, s, ob, K => match ops[i]? with
    | some o => evOp E P r ops o s ob (seqK (fun s' ob => match roB h1 s'.H with
      | true => whL s'.T fun T => whL s'.H fun H => whL s'.D fun D => planX E P r h1 ops p ⟨T, H, D⟩ ob K
      | false => False) K) ∧ planX E P r h1 ops q s ob K
    | none => False

theorem putT_length (T : Tm) (d : Option Nat) (e : Slot) : (putT T d e).length = T.length := by cases d <;> simp [putT]

theorem planX_owed {E : Env} {P : Program} {r : Option Nat} {h1 : SHeap} {ops : List Oper} {K : KS} (hK : Good K) : ∀ (p : Plan) (s : St) (ob : List Prop) (f : Nat) (l : Array Bool) (opsA : Array Oper), chk opsA p f l none = true → planX E P r h1 ops p s ob K → AllP ob
  | .done, s, ob, _, _, _, _, h => hK _ _ _ h
  | .no, s, ob, f, l, opsA, hc, h => by simp [chk] at hc
  | .eager i p, s, ob, f, l, opsA, hc, h => by
    cases f with
    | zero => simp [chk] at hc
    | succ f =>
      simp only [chk, Bool.and_eq_true] at hc
      simp only [planX] at h
      split at h
      · split at h
        · rw [fcV_eq, fcL_eq, fcP_eq, whL_eq, whL_eq] at h
          exact AllP_app (planX_owed hK p _ _ _ _ _ hc.2 h)
        · exact h.elim
      · exact h.elim
  | .alt i p q, s, ob, f, l, opsA, hc, h => by
    cases f with
    | zero => simp [chk] at hc
    | succ f =>
      have hc' : chk opsA p f (l.setIfInBounds i true) none = true := by
        simp only [chk] at hc
        split at hc
        · simp only [Bool.and_eq_true] at hc; exact hc.1.2
        · cases hc
      simp only [planX] at h
      split at h
      · refine evOp_owed (fun se s ob hk => ?_) h.1
        cases se with
        | normal =>
          simp only [seqK] at hk
          split at hk
          · rw [whL_eq, whL_eq, whL_eq] at hk; exact planX_owed hK p _ _ _ _ _ hc' hk
          · exact hk.elim
        | _ => exact hK _ _ _ hk
      · exact h.elim

/-- What the operations write is forgotten. -/
def clr : List Oper → Tm → Tm
  | [], T => T
  | o :: os, T => clr os (putT T o.dst none)
theorem clr_length : ∀ {ops : List Oper} {T : Tm}, (clr ops T).length = T.length
  | [], _ => rfl
  | o :: os, T => by rw [clr, clr_length, putT_length]
theorem clr_get : ∀ {ops : List Oper} {T : Tm} {k : Nat} {x : Option Bool × SV}, (clr ops T)[k]? = some (some x) → T[k]? = some (some x) ∧ ∀ o ∈ ops, o.dst ≠ some k
  | [], T, k, x, h => ⟨h, fun o ho => by simp at ho⟩
  | o :: os, T, k, x, h => by
    obtain ⟨h1, h2⟩ := clr_get (ops := os) h
    cases hd : o.dst with
    | none =>
      rw [hd] at h1
      refine ⟨h1, fun o' ho' => ?_⟩
      rcases List.mem_cons.1 ho' with rfl | ho'
      · rw [hd]; simp
      · exact h2 o' ho'
    | some d =>
      rw [hd] at h1
      simp only [putT, List.getElem?_set] at h1
      split at h1
      · split at h1 <;> simp at h1
      · rename_i hdk
        refine ⟨h1, fun o' ho' => ?_⟩
        rcases List.mem_cons.1 ho' with rfl | ho'
        · rw [hd]; simpa using hdk
        · exact h2 o' ho'
theorem TRel.clr {η : Nam} {ops : List Oper} {T : Tm} {tmps : Array Value} (h : TRel η T tmps) : TRel η (clr ops T) tmps :=
  ⟨by rw [clr_length]; exact h.1, fun k g sv hk => h.2 k g sv (clr_get hk).1⟩
theorem TRel.unput {η : Nam} {ops : List Oper} {o : Oper} (ho : o ∈ ops) {T : Tm} {a : Act} {v : Value} (h : TRel η (Go.Sy.clr ops T) (a.put o.dst v).tmps) : TRel η (Go.Sy.clr ops T) a.tmps := by
  cases hd : o.dst with
  | none => rw [hd] at h; exact h
  | some d =>
    rw [hd] at h
    refine ⟨by rw [← h.1]; simp [Act.put], fun k g sv hk => ?_⟩
    have hne : d ≠ k := fun e => (clr_get hk).2 o ho (by rw [hd, e])
    have := h.2 k g sv hk
    simpa only [Act.put, Array.getElem?_setIfInBounds_ne hne] using this

/-- What the region's end must be like: behind a panic no temporary is known. -/
def QD (ops : List Oper) (L : Nat) (η1 : Nam) (w1 : World) (Ef1 : Nat → Prop) (K : KS) (e : Exit) (a : Act) (w : World) : Prop :=
  match e with
  | .normal => ∃ s ob η φ, K .normal s ob ∧ Rel L η1 w1 Ef1 s η φ a w
  | .panic c => ∃ v u s ob η φ, K (.panic v) s ob ∧ den η v = some u ∧ c = [{ v := u, recovered := false }] ∧ Pin L η1 η ∧ L ≤ s.H.length ∧ Sat η φ s.H w1 Ef1 w ∧ TRel η (clr ops s.T) a.tmps ∧ DRel η s.D a.defers
  | _ => False

section
variable {E : Env} {P : Program} {r : Option Nat} {h1 : SHeap} {ops : List Oper} {K : KS} {η1 : Nam} {w1 : World} {Ef1 : Nat → Prop}

theorem planX_ok (hE : E.ok P) (hK : Good K) (hst : Still η1 h1 w1 Ef1) (hsel : Region.noSelect ops.toArray = true) : ∀ (p : Plan) (s : St) (ob : List Prop) (f : Nat) (l : Array Bool) (η : Nam) (φ : Feet) (a : Act) (w : World),
    planX E P r h1 ops p s ob K → Rel h1.length η1 w1 Ef1 s η φ a w → roB h1 s.H = true →
    (chk ops.toArray p f l none = true → wpAnyS (Fw r) 0 P .any ops.toArray (QD ops h1.length η1 w1 Ef1 K) (SameOld w1 Ef1) f l a w) ∧
    ∀ rem, chk ops.toArray p (f + 1) l (some rem) = true → ∀ i ∈ rem, wpOpIn (Fw r) 0 P ops.toArray (QD ops h1.length η1 w1 Ef1 K) i (fun a' w' => SameOld w1 Ef1 w' ∧ wpAnyS (Fw r) 0 P .any ops.toArray (QD ops h1.length η1 w1 Ef1 K) (SameOld w1 Ef1) f (l.setIfInBounds i true) a' w') a w
  | .done, s, ob, f, l, η, φ, a, w, h, hr, hro => by
    refine ⟨fun hc => ?_, fun rem hc => by simp [chk] at hc⟩
    simp only [chk, List.isEmpty_iff] at hc
    have hq : QD ops h1.length η1 w1 Ef1 K .normal a w := ⟨s, ob, η, φ, h, hr⟩
    cases f with
    | zero => exact ⟨hc, hq⟩
    | succ f => exact ⟨fun _ => hq, by rw [hc]; simp⟩
  | .no, s, ob, f, l, η, φ, a, w, h, hr, hro => by
    refine ⟨fun hc => by simp [chk] at hc, fun rem hc => ?_⟩
    cases rem with
    | nil => simp
    | cons j rem => simp [chk] at hc
  | .eager i p, s, ob, f, l, η, φ, a, w, h, hr, hro => by
    refine ⟨fun hc => ?_, fun rem hc => by simp [chk] at hc⟩
    cases f with
    | zero => simp [chk] at hc
    | succ f =>
      simp only [chk, Bool.and_eq_true] at hc
      obtain ⟨⟨hc1, hc2⟩, hc3⟩ := hc
      simp only [planX] at h
      split at h
      · rename_i o ho
        split at h
        · rename_i G v obs he
          rw [fcV_eq, fcL_eq, fcP_eq, whL_eq, whL_eq] at h
          have hob := AllP_iff.1 (planX_owed hK p _ _ _ _ _ hc3 h)
          have hS : SameOld w1 Ef1 w := ⟨hr.sat.size, hr.sat.keep, hr.sat.env⟩
          obtain ⟨u, hu1, hu2, hy⟩ := eager_ok (P := P) hE he (fun p hp => hob p (List.mem_append_left _ hp)) hr.tmps (S := SameOld w1 Ef1)
            (fun w' hw' => ⟨φ, w1, Ef1, hr.sat.mask (still_of hst hr.pin hro) hw'⟩) ⟨w, hS⟩ r
          refine wpAnyS_first (F := Fw r) (fun _ => trivial) (i := i) (oi := o) (by simpa using ho) (Region.noSelect_spec hsel) ?_ f l a w (Region.free_spec (by simpa using ho) hc2) (by simpa using hc1) hy hS ?_
          · rintro c a' w' ⟨v, u, s, ob, η, φ, k1, k2, k3, k4, k5, k6, k7, k8⟩
            exact ⟨v, u, s, ob, η, φ, k1, k2, k3, k4, k5, k6, k7.unput (List.mem_of_getElem? ho), by rwa [Act.put_defers'] at k8⟩
          · exact (planX_ok hE hK hst hsel p _ _ f _ η φ _ w h ⟨hr.pin, hr.len, hr.sat, TRel.put hr.tmps _ hu1 hu2, by rw [Act.put_defers']; exact hr.defers⟩ hro).1 hc3
        · exact h.elim
      · exact h.elim
  | .alt i p q, s, ob, f, l, η, φ, a, w, h, hr, hro => by
    have main : ∀ f, chk ops.toArray p f (l.setIfInBounds i true) none = true → wpOpIn (Fw r) 0 P ops.toArray (QD ops h1.length η1 w1 Ef1 K) i (fun a' w' => SameOld w1 Ef1 w' ∧ wpAnyS (Fw r) 0 P .any ops.toArray (QD ops h1.length η1 w1 Ef1 K) (SameOld w1 Ef1) f (l.setIfInBounds i true) a' w') a w := fun f hc => by
      simp only [planX] at h
      split at h
      · rename_i o ho
        refine evOp_ok (n := h1.length) (η0 := η1) (w0 := w1) (Ef := Ef1) hE (fun se s ob hk => ?_) ⟨fun s' ob' η' φ' a' w' hk hr' => ?_, fun v s' ob' η' φ' a' w' u hk hr' hu => ?_⟩ ho h.1 hr
        · cases se with
          | normal =>
            simp only [seqK] at hk
            split at hk
            · rw [whL_eq, whL_eq, whL_eq] at hk; exact planX_owed hK p _ _ _ _ _ hc hk
            · exact hk.elim
          | _ => exact hK _ _ _ hk
        · simp only [seqK] at hk
          split at hk
          · rename_i hro'
            rw [whL_eq, whL_eq, whL_eq] at hk
            exact ⟨⟨hr'.sat.size, hr'.sat.keep, hr'.sat.env⟩, (planX_ok hE hK hst hsel p _ _ f _ η' φ' a' w' hk hr' hro').1 hc⟩
          · exact hk.elim
        · exact ⟨v, u, s', ob', η', φ', hk, hu, rfl, hr'.pin, hr'.len, hr'.sat, hr'.tmps.clr, hr'.defers⟩
      · exact h.elim
    have hq : planX E P r h1 ops q s ob K := by
      simp only [planX] at h
      split at h
      · exact h.2
      · exact h.elim
    have rest := fun f => planX_ok hE hK hst hsel q s ob f l η φ a w hq hr hro
    constructor
    · intro hc
      cases f with
      | zero => simp [chk] at hc
      | succ f =>
        simp only [chk] at hc
        split at hc
        · rename_i j rem hrd
          simp only [Bool.and_eq_true, Nat.beq_eq] at hc
          obtain ⟨⟨rfl, hc1⟩, hc2⟩ := hc
          refine ⟨fun he => (by rw [hrd] at he; cases he), fun k hk => ?_⟩
          rw [hrd] at hk
          rcases List.mem_cons.1 hk with rfl | hk
          · exact main f hc1
          · exact (rest f).2 rem hc2 k hk
        · cases hc
    · intro rem hc
      cases rem with
      | nil => simp [chk] at hc
      | cons j rem =>
        simp only [chk, Bool.and_eq_true, Nat.beq_eq] at hc
        obtain ⟨⟨rfl, hc1⟩, hc2⟩ := hc
        intro k hk
        rcases List.mem_cons.1 hk with rfl | hk
        · exact main f hc1
        · exact (rest f).2 rem hc2 k hk
end

theorem Oper.wpIn_monoQ {F : Fence} {n : Nat} {P : Program} {Q Q' : Exit → Act → World → Prop} (hQ : ∀ e a w, Q e a w → Q' e a w) {o : Oper} {a : Act} {w : World} {K K' : Act → World → Prop} (h : ∀ a w, K a w → K' a w)
    (hh : o.wpIn F n P a w K Q) : o.wpIn F n P a w K' Q' := by
  unfold Oper.wpIn at *
  refine ⟨hh.1, ?_⟩
  have hh := hh.2
  generalize (o.semAt F.round a.eval).run P w = r at *
  cases r with
  | ok x w' =>
    cases x <;> simp only [Oper.uponIn] at hh ⊢ <;>
      first
        | exact h _ _ hh
        | exact ⟨hh.1, CallsIn.mono hh.2 (fun e w'' he => by cases e <;> first | exact h _ _ he | exact hQ _ _ _ he | exact (let ⟨a, w, hx⟩ := he; ⟨a, w, hQ _ _ _ hx⟩))⟩
        | exact ⟨hh.1, RowsIn.mono hh.2 (fun _ _ he => h _ _ he)⟩
        | exact ⟨hh.1, RoundIn.mono hh.2 (fun e w'' he => by cases e <;> first | exact h _ _ he | exact hQ _ _ _ he | exact (let ⟨a, w, hx⟩ := he; ⟨a, w, hQ _ _ _ hx⟩))⟩
  | halt x w' => cases x <;> simp only [Oper.uponIn] at hh ⊢ <;> first | exact hQ _ _ _ hh | exact hh
theorem wpOpIn_monoQ {F : Fence} {n : Nat} {P : Program} {ops : Array Oper} {Q Q' : Exit → Act → World → Prop} (hQ : ∀ e a w, Q e a w → Q' e a w) {i : Nat} {a : Act} {w : World} {K K' : Act → World → Prop} (h : ∀ a w, K a w → K' a w)
    (hh : wpOpIn F n P ops Q i K a w) : wpOpIn F n P ops Q' i K' a w := by
  unfold wpOpIn at *
  split
  · exact h _ _ (by simpa [*] using hh)
  · rename_i o ho
    simp only [ho] at hh
    split
    · rename_i hw; simp only [hw, if_true] at hh; exact Oper.wpIn_monoQ hQ h hh
    · rename_i hw; simp only [hw] at hh; exact ⟨hh.1, h _ _ hh.2⟩
theorem roB_self : ∀ (h : SHeap), roB h h = true
  | [] => rfl
  | none :: h => by simp [roB, ownO, roB_self h]
  | some o :: h => by
    simp only [roB, Bool.and_eq_true]
    refine ⟨?_, roB_self h⟩
    cases o <;> first | rfl | (rename_i own _ _ _; cases own <;> rfl)
theorem wpAnyS_mono {F : Fence} {n : Nat} {P : Program} {md : Region.Mode} {ops : Array Oper} {Q Q' : Exit → Act → World → Prop} {S : World → Prop} (hQ : ∀ e a w, Q e a w → Q' e a w) :
    ∀ (f : Nat) (l : Array Bool) (a : Act) (w : World), wpAnyS F n P md ops Q S f l a w → wpAnyS F n P md ops Q' S f l a w
  | 0, _, _, _, h => ⟨h.1, hQ _ _ _ h.2⟩
  | f + 1, _, _, _, h => ⟨fun e => hQ _ _ _ (h.1 e), fun i hi => wpOpIn_monoQ hQ (fun a' w' h' => ⟨h'.1, wpAnyS_mono hQ f _ a' w' h'.2⟩) (h.2 i hi)⟩

theorem Sat.drawn {η : Nam} {φ : Feet} {h : SHeap} {w0 w : World} {Ef : Nat → Prop} (s : Sat η φ h w0 Ef w) (n : Nat) : Sat η φ h w0 Ef { w with drawn := n } := s.world rfl ⟨rfl, rfl⟩

/-- A region that draws its order. ks: the blocks that are locked; plan: what comes up when. -/
theorem drawP {E : Env} {P : Program} (hE : E.ok P) {r : Option Nat} {n id : Nat} {ops : Array Oper} {s : St} {K : SE → St → Prop} (ks : List Nat) (plan : Plan) (hc : checkPlan ops plan = true)
    (hx : fcSt ⟨s.T, lockH ks 0 s.H, s.D⟩ fun s1 => planX E P r s1.H ops.toList plan s1 [] fun se s' ob => match se with
      | .normal => fcP ob fun ob => AllP ob ∧ roB s1.H s'.H = true ∧ fcH (unlH s.H s1.H s'.H) fun H => K .normal ⟨s'.T, H, s'.D⟩
      | .panic v => fcP ob fun ob => AllP ob ∧ roB s1.H s'.H = true ∧ fcH (unlH s.H s1.H s'.H) fun H => fcL (clr ops.toList s'.T) fun T => K (.panic v) ⟨T, H, s'.D⟩
      | _ => False) : CodeP P r n (.region id ops true) s K := by
  rw [fcSt_eq] at hx
  unfold checkPlan at hc
  rw [Bool.and_eq_true] at hc
  intro η0 η φ w0 Ef w a q1 q2 q3 q4 q5
  refine wpIn_region_any hE.mixed ?_
  have q3 := q3.drawn (w.drawn + 1)
  generalize { w with drawn := w.drawn + 1 } = w at q3
  have hl := lockH_ok ks 0 s.H
  obtain ⟨hlen, _⟩ := hl.get
  obtain ⟨Ef1, hs1, hst, hEf⟩ := q3.lock hl
  refine wpAnyIn_of_S (S := SameOld w Ef1) _ _ _ _ ?_
  have hgood : Good (fun se s' ob => match se with
      | .normal => fcP ob fun ob => AllP ob ∧ roB (lockH ks 0 s.H) s'.H = true ∧ fcH (unlH s.H (lockH ks 0 s.H) s'.H) fun H => K .normal ⟨s'.T, H, s'.D⟩
      | .panic v => fcP ob fun ob => AllP ob ∧ roB (lockH ks 0 s.H) s'.H = true ∧ fcH (unlH s.H (lockH ks 0 s.H) s'.H) fun H => fcL (clr ops.toList s'.T) fun T => K (.panic v) ⟨T, H, s'.D⟩
      | _ => False : KS) := by
    intro se s' ob hk
    cases se with
    | normal => simp only [fcP_eq] at hk; exact hk.1
    | panic v => simp only [fcP_eq] at hk; exact hk.1
    | exit i => exact hk.elim
    | goto l => exact hk.elim
    | ret => exact hk.elim
  have hro : roB (lockH ks 0 s.H) (lockH ks 0 s.H) = true := roB_self _
  have key := (planX_ok (r := r) hE hgood hst (ops := ops.toList) (by simpa using hc.1) plan ⟨s.T, lockH ks 0 s.H, s.D⟩ [] ops.size (Array.replicate ops.size false) η φ a w hx ⟨Pin.refl _ _, Nat.le_refl _, hs1, q4, q5⟩ hro).1 (by simpa using hc.2)
  simp only [Array.toArray_toList] at key
  refine wpAnyS_mono ?_ _ _ _ _ key
  intro e a' w' hq
  cases e with
  | normal =>
    obtain ⟨s', ob, η', φ', k, hr⟩ := hq
    simp only [fcP_eq, fcH_eq] at k
    obtain ⟨_, hro', k⟩ := k
    have hp : Pin s.H.length η η' := fun i hi => hr.pin i (by omega)
    obtain ⟨φ'', hs'⟩ := q3.unlock hl hEf hp hr.sat (own_of hro')
    have := hr.len
    exact ⟨.normal, _, η', φ'', k, q1.trans hp q2, by show n ≤ (unlH _ _ _).length; rw [unlH_length]; omega, rfl, hs', hr.tmps, hr.defers⟩
  | panic c =>
    obtain ⟨v, u, s', ob, η', φ', k, hu, rfl, p1, p2, p3, p4, p5⟩ := hq
    simp only [fcP_eq, fcH_eq, fcL_eq] at k
    obtain ⟨_, hro', k⟩ := k
    have hp : Pin s.H.length η η' := fun i hi => p1 i (by omega)
    obtain ⟨φ'', hs'⟩ := q3.unlock hl hEf hp p3 (own_of hro')
    exact ⟨.panic v, _, η', φ'', k, q1.trans hp q2, by show n ≤ (unlH _ _ _).length; rw [unlH_length]; omega, ⟨u, hu, rfl⟩, hs', p4, p5⟩
  | exit i => exact hq.elim
  | goto l => exact hq.elim
  | ret => exact hq.elim
  | outgrown => exact hq.elim
end Go.Sy
/-
  Sy20: what a call leaves behind may be forgotten. No program is named.
-/
namespace Go.Sy

/-- What the call gave, and the heap then, are what is said of them. -/
def EntC (n : Nat) : CE → SHeap → CE → SHeap → Prop
  | .ret v, h1, .ret v', h2 => Ent n ⟨[some (none, v)], h1, []⟩ ⟨[some (none, v')], h2, []⟩
  | .panic v, h1, .panic v', h2 => Ent n ⟨[some (none, v)], h1, []⟩ ⟨[some (none, v')], h2, []⟩
  | _, _, _, _ => False

theorem CallG.ent {C : Nam → List Value → World → (Ending → World → Prop) → Prop} (hm : ∀ (η : Nam) (vs : List Value) (w : World) (R R' : Ending → World → Prop), (∀ e w', R e w' → R' e w') → C η vs w R → C η vs w R') {args : List SV} {h : SHeap} {K : CE → SHeap → Prop} (hc : CallG C args h fun ce h1 => ∃ ce' h2, K ce' h2 ∧ EntC h.length ce h1 ce' h2) : CallG C args h K := by
  intro η φ w0 Ef w vs hs hd
  refine hm η vs w _ _ ?_ (hc η φ w0 Ef w vs hs hd)
  rintro e w' ⟨ce, h1, η1, φ1, ⟨ce', h2, hk, he⟩, hl, hp, hcr, hs1⟩
  have main : ∀ v v' u, Ent h.length ⟨[some (none, v)], h1, []⟩ ⟨[some (none, v')], h2, []⟩ → den η1 v = some u → ∃ η2 φ2, h.length ≤ h2.length ∧ Pin h.length η η2 ∧ den η2 v' = some u ∧ Sat η2 φ2 h2 w0 Ef w' := fun v v' u he hu => by
    obtain ⟨η2, φ2, p1, p2, p3, p4, _⟩ := he η1 φ1 w0 Ef w' { tmps := #[u], defers := [] } hl hs1 ⟨rfl, fun k g sv hk => by
      cases k with
      | zero => simp at hk; obtain ⟨rfl, rfl⟩ := hk; exact ⟨fun _ => ⟨u, hu, rfl⟩, fun h => by cases h⟩
      | succ k => simp at hk⟩ rfl
    obtain ⟨u', h5, h6⟩ := (p4.2 0 none v' rfl).1 rfl
    simp at h6
    subst h6
    exact ⟨η2, φ2, p2, fun i hi => (p1 i hi).trans (hp i hi), h5, p3⟩
  cases ce with
  | ret v =>
    cases ce' with
    | panic v' => exact he.elim
    | ret v' =>
      obtain ⟨u, hu, rfl⟩ := hcr
      obtain ⟨η2, φ2, q1, q2, q3, q4⟩ := main v v' u he hu
      exact ⟨_, h2, η2, φ2, hk, q1, q2, ⟨u, q3, rfl⟩, q4⟩
  | panic v =>
    cases ce' with
    | ret v' => exact he.elim
    | panic v' =>
      obtain ⟨u, hu, rfl⟩ := hcr
      obtain ⟨η2, φ2, q1, q2, q3, q4⟩ := main v v' u he hu
      exact ⟨_, h2, η2, φ2, hk, q1, q2, ⟨u, q3, rfl⟩, q4⟩

theorem CallP.ent {P : Program} {f : FuncId} {args : List SV} {h : SHeap} {K : CE → SHeap → Prop} (hc : CallP P f args h fun ce h1 => ∃ ce' h2, K ce' h2 ∧ EntC h.length ce h1 ce' h2) : CallP P f args h K :=
  CallG.ent (C := fun _ vs w R => Calls P f vs.toArray w R) (fun _ _ _ _ _ hm h => h.mono hm) hc
theorem YieldP.ent {P : Program} {i : Nat} {args : List SV} {h : SHeap} {K : CE → SHeap → Prop} (hc : YieldP P i args h fun ce h1 => ∃ ce' h2, K ce' h2 ∧ EntC h.length ce h1 ce' h2) : YieldP P i args h K :=
  CallG.ent (C := yieldC P i) (fun _ _ _ _ _ hm h => yieldC.mono h hm) hc

/-- A function that returns just this value, in just this heap. -/
theorem callR {E : Env} {P : Program} (hE : E.ok P) {f : Nat} {fn : Func} {c : Code} {args : List SV} {h h2 : SHeap} {v' : SV} (hf : P.funcs[f]? = some fn) (hb : fn.body = some c)
    (hx : X E P none h.length c ⟨initT args fn.ntmps, h, []⟩ [] (retKS E fn.results.toList fun ce h1 => match ce with
      | .ret v => Ent h.length ⟨[some (none, v)], h1, []⟩ ⟨[some (none, v')], h2, []⟩
      | .panic _ => False)) : CallP P f args h (Ret v' h2) :=
  CallP.ent ((callP_enter hE hf hb hx).mono fun ce h1 hk => by
    cases ce with
    | ret v => exact ⟨.ret v', h2, ⟨rfl, rfl⟩, hk⟩
    | panic v => exact hk.elim)
/-- Any function. -/
theorem callK {E : Env} {P : Program} (hE : E.ok P) {f : Nat} {fn : Func} {c : Code} {args : List SV} {h : SHeap} {K : CE → SHeap → Prop} (hf : P.funcs[f]? = some fn) (hb : fn.body = some c)
    (hx : X E P none h.length c ⟨initT args fn.ntmps, h, []⟩ [] (retKS E fn.results.toList fun ce h1 => ∃ ce' h2, K ce' h2 ∧ EntC h.length ce h1 ce' h2)) : CallP P f args h K :=
  CallP.ent (callP_enter hE hf hb hx)
end Go.Sy
