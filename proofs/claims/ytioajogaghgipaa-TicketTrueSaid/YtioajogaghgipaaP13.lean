/-
  Parts: Sy30, Sy31, Sy32, Sy33, Dr, Ds.
-/
import Derived.Test.YtioajogaghgipaaP12
import Derived.Recover
import Derived.Stop.LaidErr
import Derived.ProofKit
import Derived.OpenShut
import Derived.Carry
set_option linter.unusedVariables false
/-
 Sy30: temporaries said otherwise; an empty row beside a block that is only read. No program is named.
-/
namespace Go.Sy
open Go

theorem Sat.alias {η : Nam} {φ : Feet} {h : SHeap} {w0 w : World} {Ef : Nat → Prop} (s : Sat η φ h w0 Ef w) {i : Nat} {o : SObj} {a : Nat × Nat} (hi : h[i]? = some (some o)) (ha : η i = some a)
  (hc : ∃ c T fz, w.heap[a.1]? = some (.cells c T fz)) (hr : o.rw = false) (hf : o.foot a (φ i) a.1) (sz : Nat) (get : Nat → List SV) :
  Sat (fun j => if j = h.length then some a else η j) φ (h ++ [some (.roa sz 0 get)]) w0 Ef w := by
 have hη : ∀ j, j < h.length → (if j = h.length then some a else η j) = η j := fun j hj => if_neg (by omega)
 have le : η.le (fun j => if j = h.length then some a else η j) := fun j b e => by
  have hj : j < h.length := by
   obtain ⟨o1, h1⟩ := s.dom j b e
   rcases Nat.lt_or_ge j h.length with h2 | h2
   ·exact h2
   ·rw [List.getElem?_eq_none h2] at h1; cases h1
  show (if j = h.length then some a else η j) = some b
  rw [if_neg (by omega)]
  exact e
 have get? : ∀ (j : Nat) x, (h ++ [some (SObj.roa sz 0 get)])[j]? = some x → (j < h.length ∧ h[j]? = some x) ∨ (j = h.length ∧ x = some (.roa sz 0 get)) := fun j x e => by
  rcases Nat.lt_trichotomy j h.length with h1 | h1 | h1
  ·rw [List.getElem?_append_left h1] at e
   exact .inl ⟨h1, e⟩
  ·subst h1
   rw [List.getElem?_append_right (Nat.le_refl _)] at e
   simp at e
   exact .inr ⟨rfl, e.symm⟩
  ·rw [List.getElem?_eq_none (by simp; omega)] at e
   cases e
 have old : ∀ (j : Nat) (b : Nat × Nat), j < h.length → (if j = h.length then some a else η j) = some b → η j = some b := fun j b hj e => by rwa [if_neg (by omega)] at e
 have new : ∀ (b : Nat × Nat), (if h.length = h.length then some a else η h.length) = some b → a = b := fun b e => by rw [if_pos rfl] at e; exact Option.some.inj e
 constructor
 ·exact s.size
 ·exact s.env
 ·exact s.keep
 ·intro j b e
  by_cases hj : j = h.length
  ·subst hj
   exact ⟨.roa sz 0 get, by rw [List.getElem?_append_right (Nat.le_refl _)]; simp⟩
  ·have e' : η j = some b := by simpa [hj] using e
   obtain ⟨o1, h1⟩ := s.dom j b e'
   refine ⟨o1, ?_⟩
   have : j < h.length := by
    rcases Nat.lt_or_ge j h.length with h2 | h2
    ·exact h2
    ·rw [List.getElem?_eq_none h2] at h1; cases h1
   rwa [List.getElem?_append_left this]
 ·intro j o1 e
  rcases get? j _ e with ⟨h1, h2⟩ | ⟨rfl, _⟩
  ·obtain ⟨b, hb⟩ := s.named j o1 h2
   exact ⟨b, by rw [hη j h1]; exact hb⟩
  ·exact ⟨a, if_pos rfl⟩
 ·intro j o1 b e e'
  rcases get? j _ e with ⟨h1, h2⟩ | ⟨rfl, h2⟩
  ·exact SObj.holds_mono le (s.holds j o1 b h2 (old j b h1 e'))
  ·cases h2
   cases new b e'
   obtain ⟨c, T, fz, h3⟩ := hc
   exact ⟨c, T, fz, h3, fun k hk => by omega⟩
 ·intro j o1 b x e e' hx
  rcases get? j _ e with ⟨h1, h2⟩ | ⟨rfl, h2⟩
  ·exact s.bnd j o1 b x h2 (old j b h1 e') hx
  ·cases h2
   cases new b e'
   have hx' : a.1 = x := hx
   subst hx'
   exact s.bnd i o a a.1 hi ha hf
 ·intro j o1 b x e e' hr1 hx
  rcases get? j _ e with ⟨h1, h2⟩ | ⟨rfl, h2⟩
  ·exact s.own j o1 b x h2 (old j b h1 e') hr1 hx
  ·cases h2
   cases hr1
 ·intro j k oj ok aj ak x hjk ej ek ej' ek' hr1 hx hk
  rcases get? j _ ej with ⟨h1, h2⟩ | ⟨rfl, h2⟩
  ·rcases get? k _ ek with ⟨h3, h4⟩ | ⟨rfl, h4⟩
   ·exact s.sep j k oj ok aj ak x hjk h2 h4 (old j aj h1 ej') (old k ak h3 ek') hr1 hx hk
   ·cases h4
    cases new ak ek'
    have hk' : a.1 = x := hk
    subst hk'
    have hji : j ≠ i := fun e => by
     subst e
     rw [h2] at hi
     cases hi
     rw [hr] at hr1
     cases hr1
    exact s.sep j i oj o aj a a.1 hji h2 hi (old j aj h1 ej') ha hr1 hx hf
  ·cases h2
   cases hr1
theorem entAlias {n : Nat} {T : Tm} {H : SHeap} {D : List SV} {i sz0 m0 : Nat} {get0 : Nat → List SV} (hi : H[i]? = some (some (.roa sz0 m0 get0))) (sz : Nat) (get : Nat → List SV) : Ent n ⟨T, H, D⟩ ⟨T, H ++ [some (.roa sz 0 get)], D⟩ := by
 intro η φ w0 Ef w a hn hs hT hD
 obtain ⟨ad, ha⟩ := hs.named i _ hi
 obtain ⟨c, Ty, fz, hh, _⟩ := hs.holds i _ ad hi ha
 have hs2 := hs.alias hi ha ⟨c, Ty, fz, hh⟩ rfl rfl sz get
 have le : η.le (fun j => if j = H.length then some ad else η j) := fun j b e => by
  have hj : j < H.length := by
   obtain ⟨o1, h1⟩ := hs.dom j b e
   rcases Nat.lt_or_ge j H.length with h2 | h2
   ·exact h2
   ·rw [List.getElem?_eq_none h2] at h1; cases h1
  show (if j = H.length then some ad else η j) = some b
  rw [if_neg (by omega)]
  exact e
 refine ⟨_, _, fun j hj => if_neg ?_, ?_, hs2, hT.mono le, hD.mono le⟩
 ·have : n ≤ H.length := hn
  omega
 ·have : n ≤ H.length := hn
  simp only [List.length_append, List.length_singleton]
  omega
def TmEq : Tm → Tm → Prop
 | [], [] => True
 | _ :: xs, none :: ys => TmEq xs ys
 | some (g, v) :: xs, some (g', v') :: ys => g = g' ∧ (∀ η, den η v = den η v') ∧ TmEq xs ys
 | _, _ => False
theorem TmEq.get : ∀ {S T : Tm}, TmEq S T → S.length = T.length ∧ ∀ (k : Nat) (g : Option Bool) (v : SV), T[k]? = some (some (g, v)) → ∃ u, S[k]? = some (some (g, u)) ∧ ∀ η, den η u = den η v
 | [], [], _ => ⟨rfl, fun k g v h => by simp at h⟩
 | x :: xs, none :: ys, h => by
  obtain ⟨a, b⟩ := TmEq.get (S := xs) (T := ys) (by cases x <;> exact h)
  refine ⟨by simp [a], fun k g v hk => ?_⟩
  cases k with
  | zero => simp at hk
  | succ k => simpa using b k g v (by simpa using hk)
 | some (g, v) :: xs, some (g', v') :: ys, h => by
  obtain ⟨h1, h2, h3⟩ := h
  obtain ⟨a, b⟩ := TmEq.get h3
  refine ⟨by simp [a], fun k g2 v2 hk => ?_⟩
  cases k with
  | zero =>
   simp only [List.getElem?_cons_zero, Option.some.injEq, Prod.mk.injEq] at hk
   obtain ⟨rfl, rfl⟩ := hk
   exact ⟨v, by rw [h1]; rfl, h2⟩
  | succ k => simpa using b k g2 v2 (by simpa using hk)
theorem entTm {n : Nat} {T T' : Tm} {H : SHeap} {D : List SV} (h : TmEq T T') : Ent n ⟨T, H, D⟩ ⟨T', H, D⟩ := by
 intro η φ w0 Ef w a hn hs hT hD
 obtain ⟨hl, hg⟩ := h.get
 refine ⟨η, φ, fun _ _ => rfl, hn, hs, ⟨hT.1.trans hl, fun k g sv hk => ?_⟩, hD⟩
 obtain ⟨u, h1, h2⟩ := hg k g sv hk
 obtain ⟨a1, a2⟩ := hT.2 k g u h1
 exact ⟨fun hgd => by rw [← h2]; exact a1 hgd, a2⟩
end Go.Sy
/-
 Sy31: a block that is owned goes by a new name; rows that lie in it are said by the new one. No program is named.
-/
namespace Go.Sy
open Go
def TmEqN (η : Nam) : Tm → Tm → Prop
 | [], [] => True
 | _ :: xs, none :: ys => TmEqN η xs ys
 | some (g, v) :: xs, some (g', v') :: ys => g = g' ∧ den η v = den η v' ∧ TmEqN η xs ys
 | _, _ => False
theorem TmEqN.get {η : Nam} : ∀ {S T : Tm}, TmEqN η S T → S.length = T.length ∧ ∀ (k : Nat) (g : Option Bool) (v : SV), T[k]? = some (some (g, v)) → ∃ u, S[k]? = some (some (g, u)) ∧ den η u = den η v
 | [], [], _ => ⟨rfl, fun k g v h => by simp at h⟩
 | x :: xs, none :: ys, h => by
  obtain ⟨a, b⟩ := TmEqN.get (S := xs) (T := ys) (by cases x <;> exact h)
  refine ⟨by simp [a], fun k g v hk => ?_⟩
  cases k with
  | zero => simp at hk
  | succ k => simpa using b k g v (by simpa using hk)
 | some (g, v) :: xs, some (g', v') :: ys, h => by
  obtain ⟨h1, h2, h3⟩ := h
  obtain ⟨a, b⟩ := TmEqN.get h3
  refine ⟨by simp [a], fun k g2 v2 hk => ?_⟩
  cases k with
  | zero =>
   simp only [List.getElem?_cons_zero, Option.some.injEq, Prod.mk.injEq] at hk
   obtain ⟨rfl, rfl⟩ := hk
   exact ⟨v, by rw [h1]; rfl, h2⟩
  | succ k => simpa using b k g2 v2 (by simpa using hk)
theorem TmEqN.rel {η : Nam} {T T' : Tm} {tm : Array Value} (h : TmEqN η T T') (hT : TRel η T tm) : TRel η T' tm := by
 obtain ⟨hl, hg⟩ := h.get
 refine ⟨hT.1.trans hl, fun k g sv hk => ?_⟩
 obtain ⟨u, h1, h2⟩ := hg k g sv hk
 obtain ⟨a1, a2⟩ := hT.2 k g u h1
 exact ⟨fun hgd => by rw [← h2]; exact a1 hgd, a2⟩
end Go.Sy
/-
 Sy32: some blocks said as one, and said one by one again. No program is named.
-/
namespace Go.Sy
open Go
def getN (l : List (Option (Nat × Nat))) (j : Nat) : Option (Nat × Nat) :=
 match l[j]? with
 | some x => x
 | none => none
theorem NLe.getN {l l' : List (Option (Nat × Nat))} (h : NLe l l') : Nam.le (getN l) (getN l') := fun j a hj => by
 unfold Go.Sy.getN at hj ⊢
 cases hl : l[j]? with
 | none => rw [hl] at hj; cases hj
 | some x =>
  rw [hl] at hj
  simp only at hj
  subst hj
  rw [h.2 j a hl]
def packR (ps : List (Nat × SObj)) : OB where
 R l F w := ∃ φ : Nat → Nat → Prop,
  (∀ p ∈ ps, ∃ a, getN l p.1 = some a ∧ p.2.holds (getN l) a (φ p.1) w ∧ ∀ b, p.2.foot a (φ p.1) b → F b) ∧
  ∀ p ∈ ps, ∀ q ∈ ps, p.1 ≠ q.1 → ∀ a a' b, getN l p.1 = some a → getN l q.1 = some a' → p.2.foot a (φ p.1) b → ¬ q.2.foot a' (φ q.1) b
 mono := by
  rintro l l' F w hn ⟨φ, h1, h2⟩
  have le := hn.getN
  refine ⟨φ, fun p hp => ?_, fun p hp q hq hne a a' b ha ha' => ?_⟩
  ·obtain ⟨a, ha, hh, hf⟩ := h1 p hp
   exact ⟨a, le _ _ ha, SObj.holds_mono le hh, hf⟩
  ·obtain ⟨c, hc, _⟩ := h1 p hp
   obtain ⟨c', hc', _⟩ := h1 q hq
   have e1 := (le _ _ hc).symm.trans ha
   have e2 := (le _ _ hc').symm.trans ha'
   simp only [Option.some.injEq] at e1 e2
   subst e1 e2
   exact h2 p hp q hq hne c c' b hc hc'
 near := by
  rintro l F w w' hw ⟨φ, h1, h2⟩
  refine ⟨φ, fun p hp => ?_, h2⟩
  obtain ⟨a, ha, hh, hf⟩ := h1 p hp
  exact ⟨a, ha, SObj.holds_local hh fun b hb => hw b (hf b hb), hf⟩
def lookP (σ : List Nat) : List (Nat × SObj) → Nat → Option SObj
 | [], _ => none
 | p :: ps, k => match σ[p.1]? with
  | some j => match Nat.beq j k with
   | true => some p.2
   | false => lookP σ ps k
  | none => lookP σ ps k
theorem lookP_some {σ : List Nat} {k : Nat} {x : SObj} : ∀ {ps : List (Nat × SObj)}, lookP σ ps k = some x → ∃ p ∈ ps, σ[p.1]? = some k ∧ p.2 = x
 | [], h => by cases h
 | p :: ps, h => by
  rw [lookP] at h
  split at h
  ·rename_i j hj
   split at h
   ·rename_i hb
    have e := Nat.eq_of_beq_eq_true hb
    subst e
    simp only [Option.some.injEq] at h
    exact ⟨p, List.mem_cons_self, hj, h⟩
   ·obtain ⟨q, hq, r⟩ := lookP_some h
    exact ⟨q, List.mem_cons_of_mem _ hq, r⟩
  ·obtain ⟨q, hq, r⟩ := lookP_some h
   exact ⟨q, List.mem_cons_of_mem _ hq, r⟩
theorem lookP_none {σ : List Nat} {k : Nat} : ∀ {ps : List (Nat × SObj)}, lookP σ ps k = none → ∀ p ∈ ps, σ[p.1]? ≠ some k
 | [], _, p, hp => by cases hp
 | p :: ps, h, q, hq => by
  rw [lookP] at h
  split at h
  ·rename_i j hj
   split at h
   ·cases h
   ·rename_i hb
    rcases List.mem_cons.1 hq with rfl | hq
    ·intro e
     rw [hj] at e
     simp only [Option.some.injEq] at e
     rw [e, Nat.beq_refl] at hb
     cases hb
    ·exact lookP_none h q hq
  ·rename_i hj
   rcases List.mem_cons.1 hq with rfl | hq
   ·rw [hj]
    simp
   ·exact lookP_none h q hq
def injP (σ : List Nat) : List (Nat × SObj) → Bool
 | [] => true
 | p :: ps => (match σ[p.1]? with
  | some j => match lookP σ ps j with
   | some _ => false
   | none => true
  | none => false) && injP σ ps
theorem injP_ok {σ : List Nat} : ∀ {ps : List (Nat × SObj)}, injP σ ps = true → ∀ p ∈ ps, ∀ q ∈ ps, σ[p.1]? = σ[q.1]? → p = q
 | [], _, p, hp, _, _, _ => by cases hp
 | x :: ps, h, p, hp, q, hq, e => by
  rw [injP, Bool.and_eq_true] at h
  obtain ⟨h1, h2⟩ := h
  have hx : ∀ y ∈ ps, σ[x.1]? ≠ σ[y.1]? := fun y hy e2 => by
   split at h1
   ·rename_i j hj
    split at h1
    ·cases h1
    ·rename_i hl
     exact lookP_none hl y hy (e2.symm.trans hj)
   ·cases h1
  rcases List.mem_cons.1 hp with e1 | hp' <;> rcases List.mem_cons.1 hq with e2 | hq'
  ·rw [e1, e2]
  ·rw [e1] at e
   exact absurd e (hx q hq')
  ·rw [e2] at e
   exact absurd e.symm (hx p hp')
  ·exact injP_ok h2 p hp' q hq' e
def PFits (F : Nat → Nat) (h : SHeap) (σ : List Nat) : List (Nat × SObj) → Prop
 | [] => True
 | p :: ps => (match σ[p.1]? with
  | some j => match h[j]? with
   | some (some o) => ObjLe F o p.2 ∧ o.rw = true ∧ p.2.rw = true
   | _ => False
  | none => False) ∧ PFits F h σ ps
theorem PFits.get {F : Nat → Nat} {h : SHeap} {σ : List Nat} : ∀ {ps : List (Nat × SObj)}, PFits F h σ ps → ∀ p ∈ ps, ∃ j o, σ[p.1]? = some j ∧ h[j]? = some (some o) ∧ ObjLe F o p.2 ∧ o.rw = true ∧ p.2.rw = true
 | [], _, p, hp => by cases hp
 | x :: ps, hf, p, hp => by
  obtain ⟨h1, h2⟩ := hf
  rcases List.mem_cons.1 hp with rfl | hp
  ·split at h1
   ·rename_i j hj
    split at h1
    ·rename_i o ho
     exact ⟨j, o, hj, ho, h1⟩
    ·exact h1.elim
   ·exact h1.elim
  ·exact h2.get p hp
def packH (σ : List Nat) (ps : List (Nat × SObj)) (i : Nat) : Nat → SHeap → SHeap
 | _, [] => []
 | k, o :: h => (match Nat.beq k i with
  | true => some (.pack σ (packR ps))
  | false => match lookP σ ps k with
   | some _ => some .dead
   | none => o) :: packH σ ps i (k + 1) h
theorem packH_length {σ : List Nat} {ps : List (Nat × SObj)} {i : Nat} : ∀ (h : SHeap) (k : Nat), (packH σ ps i k h).length = h.length
 | [], _ => rfl
 | o :: h, k => by simp [packH, packH_length h]
theorem packH_get {σ : List Nat} {ps : List (Nat × SObj)} {i : Nat} : ∀ (h : SHeap) (k j : Nat), (packH σ ps i k h)[j]? = (h[j]?).map fun o => if k + j = i then some (.pack σ (packR ps)) else match lookP σ ps (k + j) with
   | some _ => some .dead
   | none => o
 | [], k, j => by simp [packH]
 | o :: h, k, 0 => by
  simp only [packH, List.getElem?_cons_zero, Option.map_some, Nat.add_zero, Option.some.injEq]
  by_cases e : k = i
  ·subst e; simp
  ·have : Nat.beq k i = false := by
    cases hb : Nat.beq k i with
    | false => rfl
    | true => exact absurd (Nat.eq_of_beq_eq_true hb) e
   rw [this, if_neg e]
 | o :: h, k, j + 1 => by
  simp only [packH, List.getElem?_cons_succ]
  rw [packH_get h (k + 1) j, show k + 1 + j = k + (j + 1) by omega]
theorem getN_map {η : Nam} {σ : List Nat} {m : Nat} (hm : η m = none) : getN (σ.map η) = fun k => η (sel σ m k) := by
 funext k
 unfold getN sel
 rw [List.getElem?_map]
 cases σ[k]? with
 | none => exact hm.symm
 | some j => rfl
theorem Sat.pack {η : Nam} {φ : Feet} {h : SHeap} {w0 w : World} {Ef : Nat → Prop} (s : Sat η φ h w0 Ef w) {σ : List Nat} {ps : List (Nat × SObj)} {i : Nat} (hf : PFits (sel σ h.length) h σ ps) (hj : injP σ ps = true) (hi : (lookP σ ps i).isSome = true) :
    ∃ φ', Sat η φ' (packH σ ps i 0 h) w0 Ef w := by
  have hfree : η h.length = none := s.free fun o => by rw [List.getElem?_eq_none (Nat.le_refl _)]; simp
  have gN := getN_map (σ := σ) hfree
  have gA : ∀ {k j}, σ[k]? = some j → getN (σ.map η) k = η j := fun {k j} e => by rw [gN]; simp only [sel, e]
  let F : Nat → Prop := fun b => ∃ p ∈ ps, ∃ j a, σ[p.1]? = some j ∧ η j = some a ∧ p.2.foot a (φ j) b
  have hFo : ∀ {b}, F b → ∃ p ∈ ps, ∃ j a o, σ[p.1]? = some j ∧ η j = some a ∧ h[j]? = some (some o) ∧ o.rw = true ∧ o.foot a (φ j) b := fun {b} ⟨p, hp, j, a, h1, h2, h3⟩ => by
    obtain ⟨j', o, e1, e2, e3, e4, _⟩ := hf.get p hp
    rw [h1] at e1
    simp only [Option.some.injEq] at e1
    subst e1
    exact ⟨p, hp, j, a, o, h1, h2, e2, e4, e3.foot a _ b h3⟩
  obtain ⟨x0, hx0⟩ := Option.isSome_iff_exists.1 hi
  obtain ⟨p0, hp0, hp0i, _⟩ := lookP_some hx0
  have key : ∀ {j o}, (packH σ ps i 0 h)[j]? = some (some o) → (j = i ∧ o = .pack σ (packR ps)) ∨ (j ≠ i ∧ o = .dead ∧ ∃ o', h[j]? = some (some o')) ∨ (j ≠ i ∧ (∀ p ∈ ps, σ[p.1]? ≠ some j) ∧ h[j]? = some (some o)) := fun {j o} e => by
    rw [packH_get, Nat.zero_add] at e
    cases ho : h[j]? with
    | none => rw [ho] at e; cases e
    | some q =>
      rw [ho] at e
      simp only [Option.map_some, Option.some.injEq] at e
      split at e
      · rename_i c
        simp only [Option.some.injEq] at e
        exact .inl ⟨c, e.symm⟩
      · rename_i c
        split at e
        · rename_i x hx
          simp only [Option.some.injEq] at e
          obtain ⟨p, hp, hpk, _⟩ := lookP_some hx
          obtain ⟨j', o', e1, e2, _⟩ := hf.get p hp
          rw [hpk] at e1
          simp only [Option.some.injEq] at e1
          subst e1
          exact .inr (.inl ⟨c, e.symm, o', ho.symm.trans e2⟩)
        · rename_i hx
          exact .inr (.inr ⟨c, lookP_none hx, by rw [← e]⟩)
  refine ⟨fun j => if j = i then F else φ j, ?_⟩
  exact
    { size := s.size
      env := s.env
      keep := s.keep
      dom := fun j a hja => by
        obtain ⟨o, ho⟩ := s.dom j a hja
        rw [packH_get, ho]
        simp only [Option.map_some, Option.some.injEq]
        split
        · exact ⟨_, rfl⟩
        · split
          · exact ⟨_, rfl⟩
          · exact ⟨_, rfl⟩
      named := fun j o ho => by
        rcases key ho with ⟨rfl, _⟩ | ⟨_, _, o', h1⟩ | ⟨_, _, h1⟩
        · obtain ⟨j', o', e1, e2, _⟩ := hf.get p0 hp0
          rw [hp0i] at e1
          simp only [Option.some.injEq] at e1
          subst e1
          exact s.named _ _ e2
        · exact s.named _ _ h1
        · exact s.named _ _ h1
      holds := fun j o a ho hja => by
        rcases key ho with ⟨rfl, rfl⟩ | ⟨_, rfl, _⟩ | ⟨hne, _, h1⟩
        · simp only [if_true]
          refine ⟨fun k => φ (sel σ h.length k), fun p hp => ?_, fun p hp q hq hne c c' b hc hc' hb hb' => ?_⟩
          · obtain ⟨j', o', e1, e2, e3, e4, e5⟩ := hf.get p hp
            obtain ⟨c, hc⟩ := s.named _ _ e2
            refine ⟨c, by rw [gA e1]; exact hc, ?_, fun b hb => ⟨p, hp, j', c, e1, hc, ?_⟩⟩
            · have := e3.holds (s.holds _ _ _ e2 hc)
              rw [gN]
              simp only [sel, e1] at this ⊢
              exact this
            · simp only [sel, e1] at hb
              exact hb
          · obtain ⟨j1, o1, e1, e2, e3, e4, _⟩ := hf.get p hp
            obtain ⟨j2, o2, f1, f2, f3, f4, _⟩ := hf.get q hq
            rw [gA e1] at hc
            rw [gA f1] at hc'
            simp only [sel, e1] at hb
            simp only [sel, f1] at hb'
            refine s.sep j1 j2 o1 o2 c c' b (fun e => hne ?_) e2 f2 hc hc' e4 (e3.foot _ _ _ hb) (f3.foot _ _ _ hb')
            exact congrArg Prod.fst (injP_ok hj p hp q hq (by rw [e1, f1, e]))
        · exact trivial
        · simp only [if_neg hne]
          exact s.holds j o a h1 hja
      bnd := fun j o a b ho hja hb => by
        rcases key ho with ⟨rfl, rfl⟩ | ⟨_, rfl, _⟩ | ⟨hne, _, h1⟩
        · simp only [if_true] at hb
          obtain ⟨p, _, j', a', o', _, h2, h3, _, h5⟩ := hFo hb
          exact s.bnd j' o' a' b h3 h2 h5
        · exact hb.elim
        · simp only [if_neg hne] at hb
          exact s.bnd j o a b h1 hja hb
      own := fun j o a b ho hja hr hb => by
        rcases key ho with ⟨rfl, rfl⟩ | ⟨_, rfl, _⟩ | ⟨hne, _, h1⟩
        · simp only [if_true] at hb
          obtain ⟨p, _, j', a', o', _, h2, h3, h4, h5⟩ := hFo hb
          exact s.own j' o' a' b h3 h2 h4 h5
        · cases hr
        · simp only [if_neg hne] at hb
          exact s.own j o a b h1 hja hr hb
      sep := fun j k oj ok aj ak b hne hoj hok haj hak hr hb => by
        rcases key hoj with ⟨rfl, rfl⟩ | ⟨_, rfl, _⟩ | ⟨hnj, hnj2, h1⟩
        · simp only [if_true] at hb
          obtain ⟨p, hp, j', a', o', g1, h2, h3, h4, h5⟩ := hFo hb
          rcases key hok with ⟨rfl, _⟩ | ⟨_, rfl, _⟩ | ⟨hnk, hnk2, k1⟩
          · exact absurd rfl hne
          · exact fun q => q
          · simp only [if_neg hnk]
            exact s.sep j' k o' ok a' ak b (fun e => hnk2 p hp (by rw [← e]; exact g1)) h3 k1 h2 hak h4 h5
        · cases hr
        · simp only [if_neg hnj] at hb
          rcases key hok with ⟨rfl, rfl⟩ | ⟨_, rfl, _⟩ | ⟨hnk, _, k1⟩
          · simp only [if_true]
            intro hb2
            obtain ⟨p, hp, j', a', o', g1, h2, h3, h4, h5⟩ := hFo hb2
            exact s.sep j j' oj o' aj a' b (fun e => hnj2 p hp (by rw [e]; exact g1)) h1 h3 haj h2 hr hb h5
          · exact fun q => q
          · simp only [if_neg hnk]
            exact s.sep j k oj ok aj ak b hne h1 k1 haj hak hr hb }
theorem entPack {n : Nat} {T : Tm} {H : SHeap} {D : List SV} (σ : List Nat) (ps : List (Nat × SObj)) (i : Nat) (hf : PFits (sel σ H.length) H σ ps) (hj : injP σ ps = true) (hi : (lookP σ ps i).isSome = true) :
  Ent n ⟨T, H, D⟩ ⟨T, packH σ ps i 0 H, D⟩ := by
 intro η φ w0 Ef w a hn hs hT hD
 obtain ⟨φ', s'⟩ := hs.pack hf hj hi
 exact ⟨η, φ', fun _ _ => rfl, by rw [packH_length]; exact hn, s', hT, hD⟩
def DeadP (h : SHeap) (σ : List Nat) (i : Nat) : List (Nat × SObj) → Prop
 | [] => True
 | p :: ps => (match σ[p.1]? with
  | some j => match Nat.beq j i with
   | true => True
   | false => match h[j]? with
    | some (some .dead) => True
    | _ => False
  | none => False) ∧ DeadP h σ i ps
theorem DeadP.get {h : SHeap} {σ : List Nat} {i : Nat} : ∀ {ps : List (Nat × SObj)}, DeadP h σ i ps → ∀ p ∈ ps, ∃ j, σ[p.1]? = some j ∧ (j = i ∨ h[j]? = some (some .dead))
 | [], _, p, hp => by cases hp
 | x :: ps, hd, p, hp => by
  obtain ⟨h1, h2⟩ := hd
  rcases List.mem_cons.1 hp with e | hp'
  ·subst e
   split at h1
   ·rename_i j hj
    split at h1
    ·rename_i hb
     exact ⟨j, hj, .inl (Nat.eq_of_beq_eq_true hb)⟩
    ·split at h1
     ·rename_i ho
      exact ⟨j, hj, .inr ho⟩
     ·exact h1.elim
   ·exact h1.elim
  ·exact h2.get p hp'
def unH (F : Nat → Nat) (σ : List Nat) (ps : List (Nat × SObj)) : Nat → SHeap → SHeap
 | _, [] => []
 | k, o :: h => (match lookP σ ps k with
  | some x => some (renO F x)
  | none => o) :: unH F σ ps (k + 1) h
theorem unH_length {F : Nat → Nat} {σ : List Nat} {ps : List (Nat × SObj)} : ∀ (h : SHeap) (k : Nat), (unH F σ ps k h).length = h.length
 | [], _ => rfl
 | o :: h, k => by simp [unH, unH_length h]
theorem unH_get {F : Nat → Nat} {σ : List Nat} {ps : List (Nat × SObj)} : ∀ (h : SHeap) (k j : Nat), (unH F σ ps k h)[j]? = (h[j]?).map fun o => match lookP σ ps (k + j) with
   | some x => some (renO F x)
   | none => o
 | [], k, j => by simp [unH]
 | o :: h, k, 0 => by simp [unH]
 | o :: h, k, j + 1 => by
  simp only [unH, List.getElem?_cons_succ]
  rw [unH_get h (k + 1) j, show k + 1 + j = k + (j + 1) by omega]
theorem Sat.unpack {η : Nam} {φ : Feet} {h : SHeap} {w0 w : World} {Ef : Nat → Prop} (s : Sat η φ h w0 Ef w) {σ : List Nat} {ps : List (Nat × SObj)} {i : Nat} (hi : h[i]? = some (some (.pack σ (packR ps)))) (hj : injP σ ps = true) (hil : (lookP σ ps i).isSome = true) (hd : DeadP h σ i ps) :
    ∃ φ', Sat η φ' (unH (sel σ h.length) σ ps 0 h) w0 Ef w := by
  have hfree : η h.length = none := s.free fun o => by rw [List.getElem?_eq_none (Nat.le_refl _)]; simp
  have gN := getN_map (σ := σ) hfree
  have gA : ∀ {k j}, σ[k]? = some j → getN (σ.map η) k = η j := fun {k j} e => by rw [gN]; simp only [sel, e]
  obtain ⟨ai, hai⟩ := s.named i _ hi
  obtain ⟨φ0, r1, r2⟩ : (packR ps).R (σ.map η) (φ i) w := s.holds i _ ai hi hai
  let φ' : Feet := fun j b => (∃ p ∈ ps, σ[p.1]? = some j ∧ φ0 p.1 b) ∨ ((∀ p ∈ ps, σ[p.1]? ≠ some j) ∧ φ j b)
  have e1 : ∀ p ∈ ps, ∀ j, σ[p.1]? = some j → φ' j = φ0 p.1 := fun p hp j hpj => by
    funext b
    refine propext ⟨?_, fun hb => .inl ⟨p, hp, hpj, hb⟩⟩
    rintro (⟨q, hq, hqj, hb⟩ | ⟨hn, _⟩)
    · have := injP_ok hj p hp q hq (hpj.trans hqj.symm)
      rw [this]
      exact hb
    · exact absurd hpj (hn p hp)
  have e2 : ∀ j, (∀ p ∈ ps, σ[p.1]? ≠ some j) → φ' j = φ j := fun j hn => by
    funext b
    refine propext ⟨?_, fun hb => .inr ⟨hn, hb⟩⟩
    rintro (⟨q, hq, hqj, _⟩ | ⟨_, hb⟩)
    · exact absurd hqj (hn q hq)
    · exact hb
  have key : ∀ {j o}, (unH (sel σ h.length) σ ps 0 h)[j]? = some (some o) → (∃ p ∈ ps, σ[p.1]? = some j ∧ o = renO (sel σ h.length) p.2) ∨ ((∀ p ∈ ps, σ[p.1]? ≠ some j) ∧ h[j]? = some (some o)) := fun {j o} e => by
    rw [unH_get, Nat.zero_add] at e
    cases ho : h[j]? with
    | none => rw [ho] at e; cases e
    | some q =>
      rw [ho] at e
      simp only [Option.map_some, Option.some.injEq] at e
      split at e
      · rename_i x hx
        simp only [Option.some.injEq] at e
        obtain ⟨p, hp, hpk, hx2⟩ := lookP_some hx
        exact .inl ⟨p, hp, hpk, by rw [hx2]; exact e.symm⟩
      · rename_i hx
        exact .inr ⟨lookP_none hx, by rw [← e]⟩
  obtain ⟨x0, hx0⟩ := Option.isSome_iff_exists.1 hil
  obtain ⟨p0, hp0, hp0i, _⟩ := lookP_some hx0
  have at' : ∀ p ∈ ps, ∀ j, σ[p.1]? = some j → ∃ o, h[j]? = some (some o) := fun p hp j hpj => by
    obtain ⟨j', h1, h2⟩ := hd.get p hp
    rw [hpj] at h1
    simp only [Option.some.injEq] at h1
    subst h1
    rcases h2 with rfl | h2
    · exact ⟨_, hi⟩
    · exact ⟨_, h2⟩
  have foot : ∀ p ∈ ps, ∀ j a b, σ[p.1]? = some j → η j = some a → (renO (sel σ h.length) p.2).foot a (φ' j) b → φ i b := fun p hp j a b hpj hja hb => by
    rw [renO_foot, e1 p hp j hpj] at hb
    obtain ⟨c, hc, _, hF⟩ := r1 p hp
    rw [gA hpj, hja] at hc
    simp only [Option.some.injEq] at hc
    subst hc
    exact hF b hb
  refine ⟨φ', ?_⟩
  exact
    { size := s.size
      env := s.env
      keep := s.keep
      dom := fun j a hja => by
        obtain ⟨o, ho⟩ := s.dom j a hja
        rw [unH_get, ho]
        simp only [Option.map_some, Option.some.injEq]
        split
        · exact ⟨_, rfl⟩
        · exact ⟨_, rfl⟩
      named := fun j o ho => by
        rcases key ho with ⟨p, hp, hpj, _⟩ | ⟨_, h1⟩
        · obtain ⟨o', h1⟩ := at' p hp j hpj
          exact s.named _ _ h1
        · exact s.named _ _ h1
      holds := fun j o a ho hja => by
        rcases key ho with ⟨p, hp, hpj, rfl⟩ | ⟨hn, h1⟩
        · obtain ⟨c, hc, hh, _⟩ := r1 p hp
          rw [gA hpj, hja] at hc
          simp only [Option.some.injEq] at hc
          subst hc
          rw [e1 p hp j hpj]
          exact (renO_holds gN.symm _ _ _ _).2 hh
        · rw [e2 j hn]
          exact s.holds j o a h1 hja
      bnd := fun j o a b ho hja hb => by
        rcases key ho with ⟨p, hp, hpj, rfl⟩ | ⟨hn, h1⟩
        · exact s.bnd i _ ai b hi hai (foot p hp j a b hpj hja hb)
        · rw [e2 j hn] at hb
          exact s.bnd j o a b h1 hja hb
      own := fun j o a b ho hja hr hb => by
        rcases key ho with ⟨p, hp, hpj, rfl⟩ | ⟨hn, h1⟩
        · exact s.own i _ ai b hi hai rfl (foot p hp j a b hpj hja hb)
        · rw [e2 j hn] at hb
          exact s.own j o a b h1 hja hr hb
      sep := fun j k oj ok aj ak b hne hoj hok haj hak hr hb => by
        rcases key hoj with ⟨p, hp, hpj, rfl⟩ | ⟨hnj, h1⟩
        · have hF := foot p hp j aj b hpj haj hb
          rcases key hok with ⟨q, hq, hqk, rfl⟩ | ⟨hnk, k1⟩
          · rw [renO_foot, e1 p hp j hpj] at hb
            rw [renO_foot, e1 q hq k hqk]
            refine r2 p hp q hq (fun e => hne ?_) aj ak b (by rw [gA hpj]; exact haj) (by rw [gA hqk]; exact hak) hb
            rw [e, hqk] at hpj
            exact (Option.some.inj hpj).symm
          · rw [e2 k hnk]
            refine s.sep i k _ ok ai ak b (fun e => ?_) hi k1 hai hak rfl hF
            subst e
            exact hnk p0 hp0 hp0i
        · rw [e2 j hnj] at hb
          rcases key hok with ⟨q, hq, hqk, rfl⟩ | ⟨hnk, k1⟩
          · intro hb2
            have hF := foot q hq k ak b hqk hak hb2
            refine s.sep j i oj _ aj ai b (fun e => ?_) h1 hi haj hai hr hb hF
            subst e
            exact hnj p0 hp0 hp0i
          · rw [e2 k hnk]
            exact s.sep j k oj ok aj ak b hne h1 k1 haj hak hr hb }
theorem entUnpack {n : Nat} {T : Tm} {H : SHeap} {D : List SV} (σ : List Nat) (ps : List (Nat × SObj)) (i : Nat) (hi : H[i]? = some (some (.pack σ (packR ps)))) (hj : injP σ ps = true) (hil : (lookP σ ps i).isSome = true) (hd : DeadP H σ i ps) :
  Ent n ⟨T, H, D⟩ ⟨T, unH (sel σ H.length) σ ps 0 H, D⟩ := by
 intro η φ w0 Ef w a hn hs hT hD
 obtain ⟨φ', s'⟩ := hs.unpack hi hj hil hd
 exact ⟨η, φ', fun _ _ => rfl, by rw [unH_length]; exact hn, s', hT, hD⟩
end Go.Sy
/-
 Sy33: a function that ranges over a function, and may panic behind the loop. No program is named.
-/
namespace Go.Sy
open Go

def endMK (E : Env) (rs : List ResultVar) (K : CE → SHeap → Prop) (px : Option SV) (s : St) (ob : List Prop) : Prop :=
 match s.D with
 | [.yld m] => match s.H[m]? with
  | some (some (.obj I)) => fcP ob fun ob => AllP ob ∧ (∀ o, I o → o = .deferred (some [])) ∧ fcL (s.H.set m (some .dead)) fun H => match px with
   | none => match resL E ⟨s.T, H, []⟩ rs with
    | some (vs, ob') => fcP ob' fun ob' => AllP ob' ∧ fcV (resOne vs) fun v => K (.ret v) H
    | none => False
   | some v => K (.panic v) H
  | _ => False
 | _ => False
def retKMK (E : Env) (rs : List ResultVar) (K : CE → SHeap → Prop) : KS := fun se s ob => match se with
 | .normal => endMK E rs K none s ob
 | .ret => endMK E rs K none s ob
 | .panic v => endMK E rs K (some v) s ob
 | _ => False
theorem retKMK_good (E : Env) (rs : List ResultVar) (K : CE → SHeap → Prop) : Good (retKMK E rs K) := by
 have key : ∀ px s ob, endMK E rs K px s ob → AllP ob := by
  intro px s ob h
  unfold endMK at h
  split at h
  ·split at h
   ·rw [fcP_eq] at h; exact h.1
   ·exact h.elim
  ·exact h.elim
 intro se s ob h
 unfold retKMK at h
 split at h
 ·exact key _ _ _ h
 ·exact key _ _ _ h
 ·exact key _ _ _ h
 ·exact h.elim
theorem callMK {E : Env} {P : Program} (hE : E.ok P) {f : Nat} {fn : Func} {c : Code} {args : List SV} {h : SHeap} {K : CE → SHeap → Prop} (hf : P.funcs[f]? = some fn) (hb : fn.body = some c)
  (hx : X E P none h.length c ⟨initT args fn.ntmps, h, []⟩ [] (retKMK E fn.results.toList fun ce h1 => ∃ ce' h2, K ce' h2 ∧ EntC h.length ce h1 ce' h2)) : CallP P f args h K := by
 refine CallP.ent ?_
 intro η φ w0 Ef w vs hs hd
 let KM := retKMK E fn.results.toList fun ce h1 => ∃ ce' h2, K ce' h2 ∧ EntC h.length ce h1 ce' h2
 have hc := X_ok hE c _ _ _ (fun se s => ∃ ob, KM se s ob) (retKMK_good E fn.results.toList _) (fun se s ob hk => ⟨ob, hk⟩) hx η η φ w0 Ef w { tmps := vs.toArray ++ Array.replicate (fn.ntmps - vs.toArray.size) undef, defers := [] } (Pin.refl _ _) (Nat.le_refl _) hs (initT_ok hd _) rfl
 refine calls_of_wpQ hf hb (wp_mono (wpIn_wide.1 hc) ?_)
 rintro e a w' ⟨se, s, η', φ', ⟨ob, k⟩, p1, p2, pe, p3, p4, p5⟩
 have main : ∀ (px : Option SV) (u : FrameMode), endMK E fn.results.toList (fun ce h1 => ∃ ce' h2, K ce' h2 ∧ EntC h.length ce h1 ce' h2) px s ob →
   ((px = none ∧ u = .returning) ∨ ∃ v xv, px = some v ∧ den η' v = some xv ∧ u = .panicking [{ v := xv, recovered := false }]) →
   LeavesQ P fn a.tmps (fun e w' => ∃ ce h1 η1 φ1, (∃ ce' h2, K ce' h2 ∧ EntC h.length ce h1 ce' h2) ∧ h.length ≤ h1.length ∧ Pin h.length η η1 ∧ cRel η1 ce e ∧ Sat η1 φ1 h1 w0 Ef w') a.defers u w' := by
  intro px u hk hu
  unfold endMK at hk
  split at hk
  ·rename_i m hD
   split at hk
   ·rename_i I hm
    rw [fcP_eq, fcL_eq] at hk
    obtain ⟨_, hI, hk⟩ := hk
    rw [hD] at p5
    obtain ⟨ad, ds', had, hds, hds'⟩ := drel_mark p5
    have hnil : ds' = [] := by simpa [DRel] using hds'.symm
    subst hnil
    obtain ⟨hw, hs'⟩ := p3.take hm hI had
    rw [hds]
    refine .inr ⟨ad.1, _, _, _, rfl, rfl, by rcases hu with ⟨_, rfl⟩ | ⟨_, _, _, _, rfl⟩ <;> simp, run_takeDeferred hw, ?_⟩
    rcases hu with ⟨rfl, rfl⟩ | ⟨v, xv, rfl, hxv, rfl⟩
    ·simp only at hk
     split at hk
     ·rename_i us ob' hres
      rw [fcP_eq, fcV_eq] at hk
      obtain ⟨u, h1, h2⟩ := run_results (P := P) (s := ⟨s.T, s.H.set m (some .dead), []⟩) hE hs' p4 hres hk.1
      exact ⟨u, h2, .ret (resOne us), _, η', φ', hk.2, by simpa using p2, p1, ⟨u, h1, rfl⟩, hs'⟩
     ·exact hk.elim
    ·exact ⟨.panic v, _, η', φ', hk, by simpa using p2, p1, ⟨xv, hxv, rfl⟩, hs'⟩
   ·exact hk.elim
  ·exact hk.elim
 show bodyPostQ P fn _ e a w'
 have k : retKMK E fn.results.toList (fun ce h1 => ∃ ce' h2, K ce' h2 ∧ EntC h.length ce h1 ce' h2) se s ob := k
 cases se with
 | normal =>
  have pe : e = .normal := pe
  subst pe
  exact main none _ k (.inl ⟨rfl, rfl⟩)
 | ret =>
  have pe : e = .ret := pe
  subst pe
  exact main none _ k (.inl ⟨rfl, rfl⟩)
 | panic sv =>
  obtain ⟨u, hu, rfl⟩ := pe
  exact main (some sv) _ k (.inr ⟨sv, u, rfl, hu, rfl⟩)
 | _ => exact k.elim
end Go.Sy
/-
 From a contract to the statement's world: a world whose blocks are only read.
-/
namespace Go.Sy
open Go

def roO : SObj → Bool
 | .roc _ => true
 | .roa .. => true
 | .glob .. => true
 | _ => false
theorem roO_rw {o : SObj} (h : roO o = true) : o.rw = false := by cases o <;> first | rfl | cases h
theorem roO_bnd {o : SObj} (h : roO o = true) {η : Nam} {a : Nat × Nat} {F : Nat → Prop} {w : World} (hh : o.holds η a F w) {b : Nat} (hf : o.foot a F b) : b < w.heap.size := by
 have aux : ∀ {ob : Obj}, w.heap[a.1]? = some ob → a.1 = b → b < w.heap.size := fun e e' => by
  subst e'
  rcases Nat.lt_or_ge a.1 w.heap.size with h | h
  ·exact h
  ·rw [Array.getElem?_eq_none h] at e
   cases e
 cases o <;> first | cases h | skip
 all_goals simp only [SObj.holds, SObj.foot] at hh hf
 ·obtain ⟨c, T, fz, vs, h1, _⟩ := hh
  exact aux h1 hf
 ·obtain ⟨c, T, fz, h1, _⟩ := hh
  exact aux h1 hf
 ·obtain ⟨_, c, T, fz, vs, h1, _⟩ := hh
  exact aux h1 hf

theorem satRo {h : SHeap} {W : World} (av : List (Nat × Nat)) (hl : av.length = h.length) (ho : ∀ (i : Nat) x, h[i]? = some x → ∃ o, x = some o ∧ roO o = true)
  (hh : ∀ (i : Nat) o a, h[i]? = some (some o) → av[i]? = some a → o.holds (fun j => av[j]?) a (fun _ => False) W) :
  Sat (fun j => av[j]?) (fun _ _ => False) h W (fun _ => False) W where
 size := Nat.le_refl _
 env := SameEnv.refl W
 keep := fun _ _ _ => rfl
 dom := fun i a e => by
  have hi : i < h.length := by
   rcases Nat.lt_or_ge i av.length with h1 | h1
   ·omega
   ·have e' : av[i]? = some a := e
    rw [List.getElem?_eq_none h1] at e'
    cases e'
  obtain ⟨o, h1, h2⟩ := ho i _ (List.getElem?_eq_getElem hi)
  exact ⟨o, by rw [List.getElem?_eq_getElem hi, h1]⟩
 named := fun i o e => by
  have hi : i < av.length := by
   rcases Nat.lt_or_ge i h.length with h1 | h1
   ·omega
   ·rw [List.getElem?_eq_none h1] at e
    cases e
  exact ⟨_, List.getElem?_eq_getElem hi⟩
 holds := fun i o a e e' => hh i o a e e'
 bnd := fun i o a b e e' hf => by
  obtain ⟨o', h1, h2⟩ := ho i _ e
  cases h1
  exact roO_bnd h2 (hh i o a e e') hf
 own := fun i o a b e _ hr _ => by
  obtain ⟨o', h1, h2⟩ := ho i _ e
  cases h1
  rw [roO_rw h2] at hr
  cases hr
 sep := fun i _ o _ _ _ _ _ e _ _ _ hr => by
  obtain ⟨o', h1, h2⟩ := ho i _ e
  cases h1
  rw [roO_rw h2] at hr
  cases hr

theorem keptOf {η : Nam} {φ : Feet} {h : SHeap} {W W' : World} (hs : Sat η φ h W (fun _ => False) W') (may : MemPlace → Prop) : W.keptBut W' may := by
 refine ⟨hs.env.1, hs.env.2, fun i hi => ?_⟩
 rw [hs.keep i hi (fun hx => hx)]
 cases W.heap[i]? with
 | none => exact rfl
 | some o =>
  cases o <;> first | exact rfl | exact ⟨rfl, rfl, rfl, fun _ _ => rfl⟩ | exact Or.inr ⟨rfl, rfl⟩

theorem CallP.world {P : Program} {f : FuncId} {args : List SV} {h h' : SHeap} {v : SV} (hc : CallP P f args h (Ret v h')) {η : Nam} {φ : Feet} {W : World} (hs : Sat η φ h W (fun _ => False) W)
  {vs : List Value} (hd : denL η args = some vs) {u : Value} (hu : ∀ η', den η' v = some u) :
  Calls P f vs.toArray W fun e W' => e = .returned u ∧ W.heap.size ≤ W'.heap.size ∧ (∀ b, b < W.heap.size → W'.heap[b]? = W.heap[b]?) ∧ ∀ may, W.keptBut W' may := by
 refine (hc η φ W (fun _ => False) W vs hs hd).mono ?_
 rintro e W' ⟨ce, h'', η', φ', ⟨rfl, rfl⟩, _, _, hr, hs'⟩
 obtain ⟨u', h1, rfl⟩ := hr
 rw [hu η'] at h1
 cases h1
 exact ⟨rfl, hs'.size, fun b hb => hs'.keep b hb (fun hx => hx), fun may => keptOf hs' may⟩

end Go.Sy
/-
 From the statement's reading of an argument to rows that are only read.
-/
namespace Go.Sy
open Go Go.ChangeShapes Go.WideShapes Go.ChangeAt Go.RowKit

theorem trodAll_kept {H : Type} {enc : TypeId × Value → H} {P : Program} (hl : laidOutB P = true) {W W' : World} (hs : W.heap.size ≤ W'.heap.size) (hk : ∀ b, b < W.heap.size → W'.heap[b]? = W.heap[b]?) :
  ∀ {ts : List TypeId} {vs : List Value} {ds : List (DataW H)} {ps : List MemPlace}, (ts.all fun t => P.readableRec t && decide (t < P.types.size)) = true →
  DataW.TrodAll enc P W 0 (fun _ => true) true ts vs ds ps → (∀ x ∈ ps, x.block < W.heap.size) → DataW.TrodAll enc P W' 0 (fun b => decide (b < W.heap.size)) true ts vs ds ps
 | [], [], [], ps, _, h, _ => h
 | t :: ts, v :: vs, d :: ds, ps, ht, h, hlt => by
  obtain ⟨p, q, h1, h2, rfl⟩ := h
  simp only [List.all_cons, Bool.and_eq_true, decide_eq_true_eq] at ht
  refine ⟨p, q, ?_, trodAll_kept hl hs hk ht.2 h2 (fun x hx => hlt x (List.mem_append_right _ hx)), rfl⟩
  refine WideElems.Trod_stays hl ht.1.1 ht.1.2 h1 (fun x hx => ?_) (fun x hx => by simpa using hlt x (List.mem_append_left _ hx))
  have hb := hlt x (List.mem_append_left _ hx)
  cases x with
  | cell b o => exact World.cell?_of_block (w := W) (hk b hb)
  | map b => exact hk b hb
 | [], _ :: _, _, _, _, h, _ => by simp [DataW.TrodAll] at h
 | [], [], _ :: _, _, _, h, _ => by simp [DataW.TrodAll] at h
 | _ :: _, [], _, _, _, h, _ => by simp [DataW.TrodAll] at h
 | _ :: _, _ :: _, [], _, _, h, _ => by simp [DataW.TrodAll] at h

def intCells (kd : IntKind) (n : Nat) (cs : List Value) : Prop := ∃ zs : List Int, zs.length = n ∧ (∀ z ∈ zs, InR kd z) ∧ cs = zs.map (Value.int kd)
theorem intCells.append {kd : IntKind} {n m : Nat} {a b : List Value} (ha : intCells kd n a) (hb : intCells kd m b) : intCells kd (n + m) (a ++ b) := by
 obtain ⟨x, h1, h2, rfl⟩ := ha
 obtain ⟨y, h3, h4, rfl⟩ := hb
 refine ⟨x ++ y, by simp [h1, h3], fun z hz => ?_, by simp⟩
 rcases List.mem_append.1 hz with h | h
 ·exact h2 z h
 ·exact h4 z h
theorem intCells.cut {kd : IntKind} {n m : Nat} {cs : List Value} (hl : cs.length = n + m) (ha : intCells kd n ((cs.drop 0).take n)) (hb : intCells kd m ((cs.drop n).take m)) : intCells kd (n + m) cs := by
 have := ha.append hb
 rwa [List.drop_zero, List.take_of_length_le (l := cs.drop n) (by simp; omega), List.take_append_drop] at this

section
variable {H : Type} {enc : TypeId × Value → H} {P : Program} {w : World} {base : Nat} {sp : Nat → Bool} {held : Bool}
def IntT (enc : TypeId × Value → H) (P : Program) (w : World) (base : Nat) (sp : Nat → Bool) (held : Bool) (kd : IntKind) (t : TypeId) (n : Nat) : Prop :=
 P.cellsOf t = n ∧ ∀ fuel cs x, DataW.trod enc P w base sp held fuel t cs = some x → intCells kd n cs
theorem IntT.int {kd : IntKind} (hkd : ∀ z, Lit.wf (.int kd z) = true → InR kd z) {t : TypeId} (ht : P.underlying t = some (.int kd)) (hc : P.cellsOf t = 1) : IntT enc P w base sp held kd t 1 := by
 refine ⟨hc, fun fuel cs x h => ?_⟩
 obtain ⟨z, rfl, _, hw⟩ := DataW.trod_int ht h
 refine ⟨[z], rfl, fun y hy => ?_, rfl⟩
 simp only [List.mem_singleton] at hy
 subst hy
 exact hkd _ hw
theorem IntT.two {kd : IntKind} {t : TypeId} {f0 f1 : Field} {n m : Nat} (ht : P.underlying t = some (.struct #[f0, f1])) (h0 : IntT enc P w base sp held kd f0.type n) (h1 : IntT enc P w base sp held kd f1.type m) (o0 : f0.offset = 0) (o1 : f1.offset = n) (hc : P.cellsOf t = n + m) : IntT enc P w base sp held kd t (n + m) := by
 refine ⟨hc, fun fuel cs x h => ?_⟩
 obtain ⟨xs, k, rfl, rfl, hl, hx, hf⟩ := DataW.trod_struct ht h
 have a0 := hf 0 f0 rfl
 have a1 := hf 1 f1 rfl
 rw [List.getElem?_eq_getElem (by simp [hx])] at a0 a1
 rw [h0.1, o0] at a0
 rw [h1.1, o1] at a1
 exact intCells.cut (by rw [hl, hc]) (h0.2 _ _ _ a0) (h1.2 _ _ _ a1)
theorem IntT.three {kd : IntKind} {t : TypeId} {f0 f1 f2 : Field} {n m k : Nat} (ht : P.underlying t = some (.struct #[f0, f1, f2])) (h0 : IntT enc P w base sp held kd f0.type n) (h1 : IntT enc P w base sp held kd f1.type m) (h2 : IntT enc P w base sp held kd f2.type k) (o0 : f0.offset = 0) (o1 : f1.offset = n) (o2 : f2.offset = n + m)
  (hc : P.cellsOf t = n + m + k) : IntT enc P w base sp held kd t (n + m + k) := by
 refine ⟨hc, fun fuel cs x h => ?_⟩
 obtain ⟨xs, q, rfl, rfl, hl, hx, hf⟩ := DataW.trod_struct ht h
 have a0 := hf 0 f0 rfl
 have a1 := hf 1 f1 rfl
 have a2 := hf 2 f2 rfl
 rw [List.getElem?_eq_getElem (by simp [hx])] at a0 a1 a2
 rw [h0.1, o0] at a0
 rw [h1.1, o1] at a1
 rw [h2.1, o2] at a2
 have b0 := h0.2 _ _ _ a0
 have b1 := h1.2 _ _ _ a1
 have b2 := h2.2 _ _ _ a2
 have c : intCells kd (n + m) (cs.take (n + m)) := by
  refine intCells.cut (by simp; omega) ?_ ?_
  ·rwa [List.drop_zero, List.take_take, Nat.min_eq_left (by omega)] 
  ·rwa [List.drop_take, List.take_take, show min m (n + m - n) = m by omega]
 have d := c.append b2
 rwa [List.take_of_length_le (l := cs.drop (n + m)) (by simp; omega), List.take_append_drop] at d

open Classical in
noncomputable def cellI (kd : IntKind) (W : World) (a : Nat × Nat) (k : Nat) : Int :=
 match W.cell? ⟨a.1, a.2 + k, none⟩ with
 | some (.int k n) => if k = kd ∧ InR kd n then n else 0
 | _ => 0
theorem inR_zero : ∀ kd, InR kd 0
 | .i8 | .i16 | .i32 | .i64 | .u8 | .u16 | .u32 | .u64 => by simp [InR]
theorem cellI_ok (kd : IntKind) (W : World) (a : Nat × Nat) (k : Nat) : InR kd (cellI kd W a k) := by
 unfold cellI
 split
 ·split
  ·rename_i h
   exact h.2
  ·exact inR_zero kd
 ·exact inR_zero kd
theorem mapM_get {α β : Type} {f : α → Option β} : ∀ {l : List α} {r : List β}, l.mapM f = some r → r.length = l.length ∧ ∀ (i : Nat) (a : α), l[i]? = some a → f a = r[i]? := by
 intro l
 induction l with
 | nil =>
  intro r h
  simp at h
  subst h
  exact ⟨rfl, fun i a h => by simp at h⟩
 | cons x l ih =>
  intro r h
  simp only [List.mapM_cons, Option.bind_eq_bind, Option.bind_eq_some_iff, Option.pure_def, Option.some.injEq] at h
  obtain ⟨y, h1, ys, h2, rfl⟩ := h
  obtain ⟨h3, h4⟩ := ih h2
  refine ⟨by simp [h3], fun i a ha => ?_⟩
  cases i with
  | zero => simp at ha; subst ha; simpa using h1
  | succ i => simpa using h4 i a (by simpa using ha)

theorem sliceOpen {kd : IntKind} {t e : TypeId} {sz : Nat} {v : Value} {d : DataW H} {ps : List MemPlace} {r : Reach} {b0 : Nat} (ht : P.underlying t = some (.slice e)) (he : IntT enc P w base sp held kd e sz)
  (hval : Cell.okWide P w r b0 t v) {fuel : Nat} (h : DataW.trod enc P w base sp held fuel t [v] = some (d, ps)) :
  v = .slice none 0 0 ∨ ∃ (a : Nat × Nat) (n c : Nat), v = .slice (some ⟨a.1, a.2, none⟩) n c ∧ n ≤ c ∧ (c : Int) ≤ 9223372036854775807 ∧ ∃ cs T fz, w.heap[a.1]? = some (.cells cs T fz) ∧
   ∀ k, k < n → ∀ j, j < sz → cs[a.2 + (k * sz + j)]? = some (.int kd (cellI kd w a (k * sz + j))) := by
 rcases DataW.trod_slice ht h with ⟨h1, _⟩ | ⟨a, len, cap, elems, rest, n, rfl, h1, _, _, hlc, _, hel, hat, _, _⟩
 ·left
  simpa using h1
 ·right
  simp only [List.cons.injEq, and_true] at h1
  subst h1
  have hv : len ≤ cap ∧ (cap : Int) ≤ IntKind.i64.max ∧ w.has P r b0 a e cap := by
   unfold Cell.okWide at hval
   rw [ht] at hval
   unfold Cell.ok at hval
   rw [ht] at hval
   exact hval
  obtain ⟨_, hc2, _, hsp, row, cells, hsh, _⟩ := hv
  unfold World.shape? at hsh
  cases hh : w.heap[a.block]? with
  | none => rw [hh] at hsh; cases hsh
  | some o =>
   rw [hh] at hsh
   cases o with
   | map _ _ | loop _ | chan _ | pending _ _ | view _ _ | number _ | stringIter _ _ | mapIter _ _ _ _ | deferred _ | coro _ | finalizers _ => cases hsh
   | cells cs T fz =>
    obtain ⟨ab, ao, asp⟩ := a
    simp only at hsp hh
    subst hsp
    refine ⟨(ab, ao), len, cap, rfl, hlc, by simpa [IntKind.max, IntKind.signed, IntKind.bits] using hc2, cs, T, fz, hh, fun k hk j hj => ?_⟩
    have h2 := hat k hk
    rw [List.getElem?_eq_getElem (by omega)] at h2
    obtain ⟨ys, h3, h4⟩ := Option.bind_eq_some_iff.1 h2
    rw [he.1] at h3
    obtain ⟨zs, hz, hr, rfl⟩ := he.2 _ _ _ h4
    unfold World.cells? at h3
    split at h3
    ·obtain ⟨_, h6⟩ := mapM_get h3
     have h7 := h6 j j (by simp [hj])
     rw [List.getElem?_map, List.getElem?_eq_getElem (by omega)] at h7
     have hin := hr (zs[j]'(by omega)) (List.getElem_mem _)
     have e1 : w.cell? ⟨ab, ao + (k * sz + j), none⟩ = some (.int kd (zs[j]'(by omega))) := by
      simpa [addr_add, he.1, Nat.add_assoc] using h7
     have e2 : cellI kd w (ab, ao) (k * sz + j) = zs[j]'(by omega) := by
      unfold cellI
      rw [e1]
      simp only
      rw [if_pos ⟨rfl, hin⟩]
     rw [e2]
     simpa [World.cell?, hh] using e1
    ·cases h3
end
end Go.Sy
