/-
  Parts: C6, C8, C7, C9, C11, C12, C13.
-/
import Derived.Test.YtipbempkngfdbaaDoorK23
import Derived.Test.YtipbempkngfdbaaDoorK20
import Derived.Test.YtipbempkngfdbaaDoorK22
import Derived.Test.YtipbempkngfdbaaDoorK18
import Derived.Test.YtipbempkngfdbaaDoorK21
/-
  Contract: dipworkslaw01.heavy: it answers.
-/
namespace Go.Proofs.YtipbempkngfdbaaDoor
open Go Go.Sy
set_option linter.unusedSimpArgs false
set_option maxRecDepth 100000
set_option maxHeartbeats 4000000
attribute [local irreducible] CallP CodeP Ent YieldP

theorem grow3 {n d : Int} {k : Nat} (h0 : 0 ≤ n) (hn : n ≤ 3 ^ k) (d0 : 0 ≤ d) (d2 : d ≤ 3) : 0 ≤ n * d ∧ n * d ≤ 3 ^ (k + 1) := by
  refine ⟨Int.mul_nonneg h0 d0, ?_⟩
  have h1 : n * d ≤ n * 3 := Int.mul_le_mul_of_nonneg_left d2 h0
  have h2 : (3 : Int) ^ (k + 1) = 3 ^ k * 3 := Int.pow_succ ..
  omega
theorem pow3 {k : Nat} (h : k ≤ 8) : (3 : Int) ^ k ≤ 6561 := by
  have : k = 0 ∨ k = 1 ∨ k = 2 ∨ k = 3 ∨ k = 4 ∨ k = 5 ∨ k = 6 ∨ k = 7 ∨ k = 8 := by omega
  rcases this with rfl | rfl | rfl | rfl | rfl | rfl | rfl | rfl | rfl <;> decide
theorem t13 (t : TD) (ht : t.ok) (ways : Int) : CallP Tryd.prog 13 [t.A, .int .i64 ways] t.H (fun ce h' => ∃ b, ce = .ret (.bool b) ∧ h' = t.H) := by
  refine callK (E := E) E_ok Tryd.func13 rfl ?_
  refine And.intro ?_ ?_
  · simp [AllP, under, gB, wB, inR_iff, IntKind.bits]
  refine (t33 t).use [0, 1, 2] ?_ (by (repeat' (first | exact trivial | exact rfl | exact fun _ _ => rfl | exact Or.inl rfl | refine And.intro ?_ ?_))) rfl
  refine And.intro ?_ (And.intro (fun hl => ?_) (fun hl => ?_))
  · simp [AllP, under, gB, wB, inR_iff, IntKind.bits]
  · refine (t34 t ht).use [0, 1, 2] ?_ (by (repeat' (first | exact trivial | exact rfl | exact fun _ _ => rfl | exact Or.inl rfl | refine And.intro ?_ ?_))) rfl
    refine And.intro ?_ (And.intro (fun hb => ?_) (fun hb => ?_))
    · simp [AllP, under, gB, wB, inR_iff, IntKind.bits]
    · refine And.intro trivial ?_
      refine (t33 t).use [0, 1, 2] ?_ (by (repeat' (first | exact trivial | exact rfl | exact fun _ _ => rfl | exact Or.inl rfl | refine And.intro ?_ ?_))) rfl
      refine And.intro ?_ ⟨.ret (.bool (decide (40 < max (max t.nM t.nS) t.nL))), t.H, ⟨_, rfl, rfl⟩, ?_⟩
      · simp [AllP, under, gB, wB, inR_iff, IntKind.bits]
      exact ent_tau [0, 1, 2] ⟨by (repeat' (first | exact trivial | exact rfl | exact fun _ _ => rfl | exact Or.inl rfl | refine And.intro ?_ ?_)), by (repeat' (first | exact trivial | exact rfl | exact congrArg (SV.int .i64) (Int.natCast_succ _).symm | refine And.intro ?_ ?_)), rfl⟩
    · have hv : t.Valid := by
        cases hc : decide (40 < max (max t.nM t.nS) t.nL)
        · rw [hc] at hb
          have hb2 : (!t.valid) = false := hb
          simpa [TD.valid] using hb2
        · rw [hc] at hb
          cases hb
      have hM := hv.1
      have hS := hv.2.1
      refine And.intro ?_ ?_
      · simp [AllP, under, gB, wB, inR_iff, IntKind.bits]
      refine loopP E_ok [1, 2, 4, 20, 21] (fun g : Nat × Int => [(5, .int .i64 g.2), (22, .int .i64 g.1)]) (fun _ H => H) (fun g => g.1 ≤ t.nM ∧ 0 ≤ g.2 ∧ g.2 ≤ 3 ^ g.1) (fun g => t.nM - g.1) (0, 1) ⟨Nat.zero_le _, by decide, by decide⟩ ?_ ?_
      · exact ent_tau [0, 1, 2, 3] ⟨by (repeat' (first | exact trivial | exact rfl | exact fun _ _ => rfl | exact Or.inl rfl | refine And.intro ?_ ?_)), by (repeat' (first | exact trivial | exact rfl | exact congrArg (SV.int .i64) (Int.natCast_succ _).symm | refine And.intro ?_ ?_)), rfl⟩
      · rintro ⟨k, n⟩ ⟨hk, hn0, hn⟩
        have p3 := pow3 (k := k) (by simp only at hk; omega)
        simp only at hk hn0 hn
        refine And.intro ?_ (And.intro (fun hc => ?_) (fun hc => ?_))
        · simp [AllP, under, gB, wB, inR_iff, IntKind.bits]
        · have hk' : k < t.nM := by
            have : (k : Int) < t.nM := by simpa using hc
            omega
          have mk := hv.marks (i := 0 + ((k : Int)).toNat) (by omega)
          simp only [TD.markOk] at mk
          have gr := grow3 (d := t.mhi (0 + ((k : Int)).toNat) - t.mlo (0 + ((k : Int)).toNat) + 1) hn0 hn (by omega) (by omega)
          have p4 := pow3 (k := k + 1) (by omega)
          refine And.intro ?_ ⟨(k + 1, n * (t.mhi (0 + ((k : Int)).toNat) - t.mlo (0 + ((k : Int)).toNat) + 1)), ⟨hk', gr.1, gr.2⟩, by simp only; omega, ?_⟩
          · simp only [AllP, under, inR_iff, and_true, true_and]
            (repeat' refine And.intro ?_ ?_) <;> omega
          · exact ent_tau [0, 1, 2, 3] ⟨by (repeat' (first | exact trivial | exact rfl | exact fun _ _ => rfl | exact Or.inl rfl | refine And.intro ?_ ?_)), by (repeat' (first | exact trivial | exact rfl | exact congrArg (SV.int .i64) (Int.natCast_succ _).symm | refine And.intro ?_ ?_)), rfl⟩
        · have hk' : k = t.nM := by
            have : ¬ ((k : Int) < t.nM) := by simpa using hc
            omega
          subst hk'
          refine And.intro ?_ ?_
          · simp [AllP, under, gB, wB, inR_iff, IntKind.bits]
          refine And.intro ?_ ?_
          · simp [AllP, under, gB, wB, inR_iff, IntKind.bits]
          refine loopP E_ok [1, 2, 4, 38, 39] (fun g : Nat × Int => [(5, .int .i64 g.2), (40, .int .i64 g.1)]) (fun _ H => H) (fun g => g.1 ≤ t.nS ∧ 0 ≤ g.2 ∧ g.2 ≤ 3 ^ (t.nM + g.1)) (fun g => t.nS - g.1) (0, n) ⟨Nat.zero_le _, hn0, hn⟩ ?_ ?_
          · exact ent_tau [0, 1, 2, 3] ⟨by (repeat' (first | exact trivial | exact rfl | exact fun _ _ => rfl | exact Or.inl rfl | refine And.intro ?_ ?_)), by (repeat' (first | exact trivial | exact rfl | exact congrArg (SV.int .i64) (Int.natCast_succ _).symm | refine And.intro ?_ ?_)), rfl⟩
          · rintro ⟨k, n⟩ ⟨hk, hn0, hn⟩
            have p3 := pow3 (k := t.nM + k) (by simp only at hk; omega)
            simp only at hk hn0 hn
            refine And.intro ?_ (And.intro (fun hc => ?_) (fun hc => ?_))
            · simp [AllP, under, gB, wB, inR_iff, IntKind.bits]
            · have hk' : k < t.nS := by
                have : (k : Int) < t.nS := by simpa using hc
                omega
              have mk := hv.2.2.2.2.1 (0 + ((k : Int)).toNat) (by omega)
              simp only [TD.sandOk] at mk
              have gr := grow3 (d := t.shi (0 + ((k : Int)).toNat) - t.slo (0 + ((k : Int)).toNat) + 1) hn0 hn (by omega) (by omega)
              have p4 := pow3 (k := t.nM + k + 1) (by omega)
              refine And.intro ?_ ⟨(k + 1, n * (t.shi (0 + ((k : Int)).toNat) - t.slo (0 + ((k : Int)).toNat) + 1)), ⟨hk', gr.1, gr.2⟩, by simp only; omega, ?_⟩
              · simp only [AllP, under, inR_iff, and_true, true_and]
                (repeat' refine And.intro ?_ ?_) <;> omega
              · exact ent_tau [0, 1, 2, 3] ⟨by (repeat' (first | exact trivial | exact rfl | exact fun _ _ => rfl | exact Or.inl rfl | refine And.intro ?_ ?_)), by (repeat' (first | exact trivial | exact rfl | exact congrArg (SV.int .i64) (Int.natCast_succ _).symm | refine And.intro ?_ ?_)), rfl⟩
            · refine And.intro trivial ?_
              refine And.intro trivial ?_
              refine ⟨.ret (.bool (decide (n > ways))), t.H, ⟨_, rfl, rfl⟩, ?_⟩
              exact ent_tau [0, 1, 2] ⟨by (repeat' (first | exact trivial | exact rfl | exact fun _ _ => rfl | exact Or.inl rfl | refine And.intro ?_ ?_)), by (repeat' (first | exact trivial | exact rfl | exact congrArg (SV.int .i64) (Int.natCast_succ _).symm | refine And.intro ?_ ?_)), rfl⟩
  · have hl2 : decide (40 < max (max t.nM t.nS) t.nL) = true := by
      cases hc : decide (40 < max (max t.nM t.nS) t.nL)
      · rw [hc] at hl
        cases hl
      · rfl
    refine And.intro ?_ (And.intro (fun hb => ?_) (fun hb => ?_))
    · refine And.intro ?_ ?_
      · simp [AllP, under, gB, wB, inR_iff, IntKind.bits]
      simp [AllP, under, gB, wB, inR_iff, IntKind.bits]
      have := of_decide_eq_true hl2
      omega
    · refine And.intro trivial ?_
      refine (t33 t).use [0, 1, 2] ?_ (by (repeat' (first | exact trivial | exact rfl | exact fun _ _ => rfl | exact Or.inl rfl | refine And.intro ?_ ?_))) rfl
      refine And.intro ?_ ⟨.ret (.bool (decide (40 < max (max t.nM t.nS) t.nL))), t.H, ⟨_, rfl, rfl⟩, ?_⟩
      · simp [AllP, under, gB, wB, inR_iff, IntKind.bits]
      exact ent_tau [0, 1, 2] ⟨by (repeat' (first | exact trivial | exact rfl | exact fun _ _ => rfl | exact Or.inl rfl | refine And.intro ?_ ?_)), by (repeat' (first | exact trivial | exact rfl | exact congrArg (SV.int .i64) (Int.natCast_succ _).symm | refine And.intro ?_ ?_)), rfl⟩
    · rw [hl2] at hb
      cases hb
end Go.Proofs.YtipbempkngfdbaaDoor
/-
  What tide.Served returns, said alike whether it is nil or not.
-/
namespace Go.Sy
open Go

/-- An empty row beside a block that is only read. -/
theorem Sat.alias {η : Nam} {φ : Feet} {h : SHeap} {w0 w : World} {Ef : Nat → Prop} (s : Sat η φ h w0 Ef w) {i : Nat} {o : SObj} {a : Nat × Nat} (hi : h[i]? = some (some o)) (ha : η i = some a)
    (hc : ∃ c T fz, w.heap[a.1]? = some (.cells c T fz)) (hr : o.rw = false) (hf : o.foot a (φ i) a.1) (sz : Nat) (get : Nat → List SV) :
    Sat (fun j => if j = h.length then some a else η j) φ (h ++ [some (.roa sz 0 get)]) w0 Ef w := by
  have hη : ∀ j, j < h.length → (if j = h.length then some a else η j) = η j := fun j hj => if_neg (by omega)
  have le : η.le (fun j => if j = h.length then some a else η j) := fun j b e => by
    have hj : j < h.length := by
      obtain ⟨o1, h1⟩ := s.dom j b e
      rcases Nat.lt_or_ge j h.length with h2 | h2
      · exact h2
      · rw [List.getElem?_eq_none h2] at h1; cases h1
    show (if j = h.length then some a else η j) = some b
    rw [if_neg (by omega)]
    exact e
  have get? : ∀ (j : Nat) x, (h ++ [some (SObj.roa sz 0 get)])[j]? = some x → (j < h.length ∧ h[j]? = some x) ∨ (j = h.length ∧ x = some (.roa sz 0 get)) := fun j x e => by
    rcases Nat.lt_trichotomy j h.length with h1 | h1 | h1
    · rw [List.getElem?_append_left h1] at e
      exact .inl ⟨h1, e⟩
    · subst h1
      rw [List.getElem?_append_right (Nat.le_refl _)] at e
      simp at e
      exact .inr ⟨rfl, e.symm⟩
    · rw [List.getElem?_eq_none (by simp; omega)] at e
      cases e
  have old : ∀ (j : Nat) (b : Nat × Nat), j < h.length → (if j = h.length then some a else η j) = some b → η j = some b := fun j b hj e => by rwa [if_neg (by omega)] at e
  have new : ∀ (b : Nat × Nat), (if h.length = h.length then some a else η h.length) = some b → a = b := fun b e => by rw [if_pos rfl] at e; exact Option.some.inj e
  constructor
  · exact s.size
  · exact s.env
  · exact s.keep
  · intro j b e
    by_cases hj : j = h.length
    · subst hj
      exact ⟨.roa sz 0 get, by rw [List.getElem?_append_right (Nat.le_refl _)]; simp⟩
    · have e' : η j = some b := by simpa [hj] using e
      obtain ⟨o1, h1⟩ := s.dom j b e'
      refine ⟨o1, ?_⟩
      have : j < h.length := by
        rcases Nat.lt_or_ge j h.length with h2 | h2
        · exact h2
        · rw [List.getElem?_eq_none h2] at h1; cases h1
      rwa [List.getElem?_append_left this]
  · intro j o1 e
    rcases get? j _ e with ⟨h1, h2⟩ | ⟨rfl, _⟩
    · obtain ⟨b, hb⟩ := s.named j o1 h2
      exact ⟨b, by rw [hη j h1]; exact hb⟩
    · exact ⟨a, if_pos rfl⟩
  · intro j o1 b e e'
    rcases get? j _ e with ⟨h1, h2⟩ | ⟨rfl, h2⟩
    · exact SObj.holds_mono le (s.holds j o1 b h2 (old j b h1 e'))
    · cases h2
      cases new b e'
      obtain ⟨c, T, fz, h3⟩ := hc
      exact ⟨c, T, fz, h3, fun k hk => by omega⟩
  · intro j o1 b x e e' hx
    rcases get? j _ e with ⟨h1, h2⟩ | ⟨rfl, h2⟩
    · exact s.bnd j o1 b x h2 (old j b h1 e') hx
    · cases h2
      cases new b e'
      have hx' : a.1 = x := hx
      subst hx'
      exact s.bnd i o a a.1 hi ha hf
  · intro j o1 b x e e' hr1 hx
    rcases get? j _ e with ⟨h1, h2⟩ | ⟨rfl, h2⟩
    · exact s.own j o1 b x h2 (old j b h1 e') hr1 hx
    · cases h2
      cases hr1
  · intro j k oj ok aj ak x hjk ej ek ej' ek' hr1 hx hk
    rcases get? j _ ej with ⟨h1, h2⟩ | ⟨rfl, h2⟩
    · rcases get? k _ ek with ⟨h3, h4⟩ | ⟨rfl, h4⟩
      · exact s.sep j k oj ok aj ak x hjk h2 h4 (old j aj h1 ej') (old k ak h3 ek') hr1 hx hk
      · cases h4
        cases new ak ek'
        have hk' : a.1 = x := hk
        subst hk'
        have hji : j ≠ i := fun e => by
          subst e
          rw [h2] at hi
          cases hi
          rw [hr] at hr1
          cases hr1
        exact s.sep j i oj o aj a a.1 hji h2 hi (old j aj h1 ej') ha hr1 hx hf
    · cases h2
      cases hr1
/-- An empty row more, said beside a block that is only read. -/
theorem entAlias {n : Nat} {T : Tm} {H : SHeap} {D : List SV} {i sz0 m0 : Nat} {get0 : Nat → List SV} (hi : H[i]? = some (some (.roa sz0 m0 get0))) (sz : Nat) (get : Nat → List SV) : Ent n ⟨T, H, D⟩ ⟨T, H ++ [some (.roa sz 0 get)], D⟩ := by
  intro η φ w0 Ef w a hn hs hT hD
  obtain ⟨ad, ha⟩ := hs.named i _ hi
  obtain ⟨c, Ty, fz, hh, _⟩ := hs.holds i _ ad hi ha
  have hs2 := hs.alias hi ha ⟨c, Ty, fz, hh⟩ rfl rfl sz get
  have le : η.le (fun j => if j = H.length then some ad else η j) := fun j b e => by
    have hj : j < H.length := by
      obtain ⟨o1, h1⟩ := hs.dom j b e
      rcases Nat.lt_or_ge j H.length with h2 | h2
      · exact h2
      · rw [List.getElem?_eq_none h2] at h1; cases h1
    show (if j = H.length then some ad else η j) = some b
    rw [if_neg (by omega)]
    exact e
  refine ⟨_, _, fun j hj => if_neg ?_, ?_, hs2, hT.mono le, hD.mono le⟩
  · have : n ≤ H.length := hn
    omega
  · have : n ≤ H.length := hn
    simp only [List.length_append, List.length_singleton]
    omega
theorem entAliasR {n : Nat} {s : St} {T : Tm} {H : SHeap} {D : List SV} {i sz0 m0 : Nat} {get0 : Nat → List SV} {sz : Nat} {get : Nat → List SV} (h : Ent n s ⟨T, H, D⟩) (hi : H[i]? = some (some (.roa sz0 m0 get0))) : Ent n s ⟨T, H ++ [some (.roa sz 0 get)], D⟩ := h.trans (entAlias hi sz get)
end Go.Sy
namespace Go.Proofs.YtipbempkngfdbaaDoor
open Go Go.Sy
set_option maxRecDepth 100000

/-- What a call returns that returns spans. -/
def KOb (t : TD) (r : Told (List (Int × Int))) : CE → SHeap → Prop := fun ce h' =>
  (∃ (b : Bool) (cap : Nat), b = false ∧ r.v = [] ∧ ce = .ret (.tup [.osl b 5 2 r.v.length cap, .int .i64 r.e]) ∧ h' = t.HG) ∨
  (∃ (b : Bool) (cap : Nat), b = true ∧ 0 < r.v.length ∧ r.v.length ≤ cap ∧ cap ≤ 9223372036854775807 ∧ ce = .ret (.tup [.osl b 5 2 r.v.length cap, .int .i64 r.e]) ∧ h' = t.HG ++ [some (.arr 2 r.v.length cap (prow r.v))])
theorem t15b (t : TD) (p l h : Int) : CallP Tryd.prog 15 [t.A, .int .i64 p, .int .i64 l, .int .i64 h] t.HG (KOb t (t.servedT p l h)) := by
  intro η φ w0 Ef w vs hs hd
  refine (t15 t p l h η φ w0 Ef w vs hs hd).mono ?_
  rintro e w' ⟨ce, h', η', φ', hk, hlen, hp, hr, hs'⟩
  rcases hk with ⟨hv, rfl, rfl⟩ | ⟨hv, cap, hc1, hc2, rfl, rfl⟩
  · refine ⟨.ret (.tup [.osl false 5 2 (t.servedT p l h).v.length 0, .int .i64 (t.servedT p l h).e]), t.HG, η', φ', .inl ⟨false, 0, rfl, hv, rfl, rfl⟩, hlen, hp, ?_, hs'⟩
    obtain ⟨u, hu, rfl⟩ := hr
    refine ⟨u, ?_, rfl⟩
    simpa [den, denL, hv] using hu
  · refine ⟨.ret (.tup [.osl true 5 2 (t.servedT p l h).v.length cap, .int .i64 (t.servedT p l h).e]), t.HG ++ [some (.arr 2 (t.servedT p l h).v.length cap (prow (t.servedT p l h).v))], η', φ', .inr ⟨true, cap, rfl, hv, hc1, hc2, rfl, rfl⟩, hlen, hp, ?_, hs'⟩
    obtain ⟨u, hu, rfl⟩ := hr
    refine ⟨u, ?_, rfl⟩
    simpa [den, denL] using hu
end Go.Proofs.YtipbempkngfdbaaDoor
/-
  The plain law of spans of good minutes.
-/
namespace Go.Proofs.YtipbempkngfdbaaDoor
open Go Go.Sy
set_option maxRecDepth 100000

/-- Spans of the good ones of the minutes from lo on, below m: in order, no two meet, and just the good ones are in them. -/
structure Sps (good : Int → Bool) (lo m : Int) (o : List (Int × Int)) : Prop where
  wf : ∀ i, i < o.length → lo ≤ (o.getD i (0, 0)).1 ∧ (o.getD i (0, 0)).1 ≤ (o.getD i (0, 0)).2 ∧ (o.getD i (0, 0)).2 < m
  apart : ∀ i, 0 < i → i < o.length → (o.getD (i - 1) (0, 0)).2 + 1 < (o.getD i (0, 0)).1
  mem : ∀ x, lo ≤ x → x < m → (good x = true ↔ ∃ i, i < o.length ∧ (o.getD i (0, 0)).1 ≤ x ∧ x ≤ (o.getD i (0, 0)).2)
theorem getD_append (o : List (Int × Int)) (v : Int × Int) (i : Nat) : (o ++ [v]).getD i (0, 0) = if i < o.length then o.getD i (0, 0) else if i = o.length then v else (0, 0) := by
  rw [List.getD_eq_getElem?_getD, List.getD_eq_getElem?_getD]
  rcases Nat.lt_trichotomy i o.length with h | h | h
  · rw [List.getElem?_append_left h, if_pos h]
  · subst h
    simp
  · rw [List.getElem?_eq_none (by simp; omega), if_neg (by omega), if_neg (by omega)]
    rfl
theorem Sps.step {good : Int → Bool} {lo m : Int} {o : List (Int × Int)} (h : Sps good lo m o) (hm : lo ≤ m) : Sps good lo (m + 1) (stepS (good m) o m) := by
  unfold stepS
  by_cases hg : good m = false
  · rw [if_pos hg]
    refine ⟨fun i hi => by have := h.wf i hi; omega, h.apart, fun x hx hx' => ?_⟩
    rcases Int.lt_or_le x m with hlt | hge
    · exact h.mem x hx hlt
    · have : x = m := by omega
      subst this
      rw [hg]
      refine ⟨fun h => (by cases h), fun ⟨i, hi, _, h2⟩ => ?_⟩
      have := (h.wf i hi).2.2
      omega
  · rw [if_neg hg]
    have hg' : good m = true := by simpa using hg
    by_cases hc : 0 < o.length ∧ (o.getD (o.length - 1) (0, 0)).2 + 1 = m
    · rw [if_pos hc]
      obtain ⟨h0, h1⟩ := hc
      have hl := h.wf (o.length - 1) (by omega)
      have ge : ∀ i, (o.set (o.length - 1) ((o.getD (o.length - 1) (0, 0)).1, (o.getD (o.length - 1) (0, 0)).2 + 1)).getD i (0, 0) = if i = o.length - 1 then ((o.getD (o.length - 1) (0, 0)).1, (o.getD (o.length - 1) (0, 0)).2 + 1) else o.getD i (0, 0) := fun i => getD_set o _ i _ (by omega)
      refine ⟨fun i hi => ?_, fun i h2 h3 => ?_, fun x hx hx' => ?_⟩
      · rw [List.length_set] at hi
        rw [ge]
        split
        · simp only
          omega
        · have := h.wf i hi
          omega
      · rw [List.length_set] at h3
        have := h.apart i h2 h3
        rw [ge, ge, if_neg (by omega)]
        split
        · rename_i e
          subst e
          exact this
        · exact this
      · rw [List.length_set]
        rcases Int.lt_or_le x m with hlt | hge
        · rw [h.mem x hx hlt]
          refine ⟨fun ⟨i, hi, a, b⟩ => ⟨i, hi, ?_⟩, fun ⟨i, hi, a⟩ => ⟨i, hi, ?_⟩⟩
          · rw [ge]
            split
            · rename_i e
              subst e
              simp only
              omega
            · exact ⟨a, b⟩
          · rw [ge] at a
            split at a
            · rename_i e
              subst e
              simp only at a
              omega
            · exact a
        · have : x = m := by omega
          subst this
          refine ⟨fun _ => ⟨o.length - 1, by omega, ?_⟩, fun _ => hg'⟩
          rw [ge, if_pos rfl]
          simp only
          omega
    · rw [if_neg hc]
      refine ⟨fun i hi => ?_, fun i h2 h3 => ?_, fun x hx hx' => ?_⟩
      · rw [List.length_append, List.length_singleton] at hi
        rw [getD_append]
        split
        · rename_i h4
          have := h.wf i h4
          omega
        · rw [if_pos (by omega)]
          simp only
          omega
      · rw [List.length_append, List.length_singleton] at h3
        rw [getD_append, getD_append, if_pos (show i - 1 < o.length by omega)]
        split
        · rename_i h4
          exact h.apart i h2 h4
        · rw [if_pos (by omega)]
          have e : i - 1 = o.length - 1 := by omega
          rw [e]
          have := h.wf (o.length - 1) (by omega)
          have : ¬ ((o.getD (o.length - 1) (0, 0)).2 + 1 = m) := fun h5 => hc ⟨by omega, h5⟩
          simp only
          omega
      · rw [List.length_append, List.length_singleton]
        rcases Int.lt_or_le x m with hlt | hge
        · rw [h.mem x hx hlt]
          refine ⟨fun ⟨i, hi, a⟩ => ⟨i, by omega, ?_⟩, fun ⟨i, hi, a⟩ => ?_⟩
          · rw [getD_append, if_pos hi]
            exact a
          · rw [getD_append] at a
            split at a
            · rename_i h4
              exact ⟨i, h4, a⟩
            · rw [if_pos (by omega)] at a
              simp only at a
              omega
        · have : x = m := by omega
          subst this
          refine ⟨fun _ => ⟨o.length, by omega, ?_⟩, fun _ => hg'⟩
          rw [getD_append, if_neg (by omega), if_pos rfl]
          simp only
          omega
theorem servF_sps {good : Int → Bool} {lo : Int} : ∀ (c : Nat) (m : Int) (o : List (Int × Int)), lo ≤ m → Sps good lo m o → Sps good lo (m + c) (servF good c m o)
  | 0, m, o, _, h => by simpa [servF] using h
  | c + 1, m, o, hm, h => by
    have := servF_sps c (m + 1) _ (by omega) (h.step hm)
    simp only [servF]
    rwa [show m + ((c + 1 : Nat) : Int) = m + 1 + c by omega]
theorem sps_nil (good : Int → Bool) (lo : Int) : Sps good lo lo [] := ⟨fun i h => by simp at h, fun i _ h => by simp at h, fun x h1 h2 => by omega⟩
end Go.Proofs.YtipbempkngfdbaaDoor
/-
  The plain law of TideServed.
-/
namespace Go.Proofs.YtipbempkngfdbaaDoor
open Go Go.Sy
set_option maxRecDepth 100000

theorem firstF_spec {ok : Int → Bool} : ∀ (c : Nat) (m : Int), (∃ v, firstF ok c m = ⟨v, 0⟩ ∧ m ≤ v ∧ v < m + c ∧ ok v = true ∧ ∀ x, m ≤ x → x < v → ok x = false) ∨ (firstF ok c m = ⟨0, 4⟩ ∧ ∀ x, m ≤ x → x < m + c → ok x = false)
  | 0, m => .inr ⟨rfl, fun x h1 h2 => by omega⟩
  | c + 1, m => by
    simp only [firstF]
    by_cases h : ok m = true
    · rw [if_pos h]
      exact .inl ⟨m, rfl, by omega, by omega, h, fun x h1 h2 => by omega⟩
    · rw [if_neg h]
      have h' : ok m = false := by simpa using h
      rcases firstF_spec (ok := ok) c (m + 1) with ⟨v, e, h1, h2, h3, h4⟩ | ⟨e, h4⟩
      · refine .inl ⟨v, e, by omega, by omega, h3, fun x h5 h6 => ?_⟩
        rcases Int.lt_or_eq_of_le h5 with h7 | rfl
        · exact h4 x (by omega) h6
        · exact h'
      · refine .inr ⟨e, fun x h5 h6 => ?_⟩
        rcases Int.lt_or_eq_of_le h5 with h7 | rfl
        · exact h4 x (by omega) (by omega)
        · exact h'
theorem told_iff {good : Int → Bool} {lo hi m : Int} {o : List (Int × Int)} (h : Sps good lo hi o) (h1 : lo ≤ m) (h2 : m < hi) {k : Nat} (hk : k ≤ o.length) (hb : ∀ i, i < k → (o.getD i (0, 0)).2 < m) (hs : k < o.length → ¬ (o.getD k (0, 0)).2 < m) :
    (k < o.length ∧ (o.getD k (0, 0)).1 ≤ m) ↔ good m = true := by
  rw [h.mem m h1 h2]
  refine ⟨fun ⟨a, b⟩ => ⟨k, a, b, by have := hs a; omega⟩, fun ⟨i, hi, a, b⟩ => ?_⟩
  have hik : k ≤ i := by
    rcases Nat.lt_or_ge i k with h3 | h3
    · have := hb i h3
      omega
    · exact h3
  rcases Nat.eq_or_lt_of_le hik with rfl | hlt
  · exact ⟨hi, a⟩
  · exfalso
    have h4 := hs (by omega)
    have mono : ∀ j, k < j → j < o.length → (o.getD k (0, 0)).2 < (o.getD j (0, 0)).1 := by
      intro j
      induction j with
      | zero => intro h5; omega
      | succ j ih =>
        intro h5 h6
        have h7 := h.apart (j + 1) (by omega) h6
        have e : j + 1 - 1 = j := by omega
        rw [e] at h7
        rcases Nat.eq_or_lt_of_le (show k ≤ j by omega) with rfl | h8
        · omega
        · have h9 := ih h8 (by omega)
          have h10 := (h.wf j (by omega)).2.1
          omega
    have := mono i hlt hi
    omega
theorem Sps.low {good : Int → Bool} {lo m : Int} {o : List (Int × Int)} (h : Sps good lo m o) : ∀ i : Nat, i < o.length → lo + i ≤ (o.getD i (0, 0)).1
  | 0, hi => by
    have := h.wf 0 hi
    omega
  | i + 1, hi => by
    have h1 := h.low i (by omega)
    have h2 := h.wf i (by omega)
    have h3 := h.apart (i + 1) (by omega) hi
    have e : i + 1 - 1 = i := by omega
    rw [e] at h3
    omega
theorem Sps.len {good : Int → Bool} {lo m : Int} {o : List (Int × Int)} (h : Sps good lo m o) (hm : lo ≤ m) : (o.length : Int) ≤ m - lo := by
  rcases Nat.eq_zero_or_pos o.length with h0 | h0
  · omega
  · have h1 := h.low (o.length - 1) (by omega)
    have h2 := h.wf (o.length - 1) (by omega)
    omega
theorem cond1 {n k : Nat} {a m dl dh low high : Int} {g : Bool} (hT : k < n ∧ a ≤ m ↔ g = true) (hg : g = (decide (low ≤ dl) && decide (dh ≤ high)))
    (h : (!((bif decide ((k : Int) < n) then decide (a ≤ m) else false) == bif decide (dl ≥ low) then decide (dh ≤ high) else false)) = true) : False := by
  rw [Bool.not_eq_true', beq_eq_false_iff_ne] at h
  apply h
  rw [Bool.eq_iff_iff]
  rw [hg] at hT
  simp only [Bool.and_eq_true, decide_eq_true_eq] at hT
  constructor
  · intro h1
    have h2 : k < n ∧ a ≤ m := by simpa using h1
    have := hT.1 h2
    simp [this]
  · intro h1
    have h2 : low ≤ dl ∧ dh ≤ high := by simpa using h1
    have := hT.2 h2
    simp [this]
theorem cond2 {s : Bool} {m bg fv fe dl dh low last : Int} {ok : Int → Bool} (hle : dl ≤ dh) (hm : m ≤ last) (eK : ok m = if s = true then decide (low ≤ dl) else decide (low ≤ dh))
    (hF : (fe = 0 ∧ bg ≤ fv ∧ fv ≤ last ∧ ok fv = true ∧ ∀ x, bg ≤ x → x < fv → ok x = false) ∨ (fe = 4 ∧ fv = 0 ∧ ∀ x, bg ≤ x → x ≤ last → ok x = false))
    (h : (bif bif bif decide (m ≥ bg) then bif !decide (fe = 0) then true else decide (m < fv) else false then bif decide (dl ≥ low) then true else bif !s then decide (dh ≥ low) else false else false then true else
      bif bif decide (fe = 0) then decide (m = fv) else false then !bif decide (dl ≥ low) then true else bif !s then decide (dh ≥ low) else false else false) = true) : False := by
  have hE : (bif decide (dl ≥ low) then true else bif !s then decide (dh ≥ low) else false) = ok m := by
    rw [eK, Bool.eq_iff_iff]
    cases s <;> simp <;> omega
  rw [hE] at h
  rcases hF with ⟨rfl, h1, h2, h3, h4⟩ | ⟨rfl, rfl, h4⟩
  · simp at h
    rcases h with ⟨⟨a, b⟩, c⟩ | ⟨a, b⟩
    · rw [h4 m a b] at c
      cases c
    · subst a
      rw [h3] at b
      cases b
  · simp at h
    obtain ⟨a, c⟩ := h
    rw [h4 m a hm] at c
    cases c
end Go.Proofs.YtipbempkngfdbaaDoor
/-
  Truths one by one: heights of marks and of sand, and which of them fit the looks.
-/
namespace Go.Proofs.YtipbempkngfdbaaDoor
open Go Go.Sy
set_option maxRecDepth 100000
set_option maxHeartbeats 4000000

/-! ### Lists -/
def catG {α : Type} (f : Int → List α) (lo : Int) : Nat → List α
  | 0 => []
  | c + 1 => catG f lo c ++ f (lo + c)
theorem catG_mem {α : Type} {f : Int → List α} {lo : Int} {x : α} : ∀ {c : Nat}, x ∈ catG f lo c ↔ ∃ v, lo ≤ v ∧ v < lo + c ∧ x ∈ f v
  | 0 => by
    simp only [catG, List.not_mem_nil, false_iff]
    rintro ⟨v, h1, h2, _⟩
    omega
  | c + 1 => by
    simp only [catG, List.mem_append, catG_mem (c := c)]
    constructor
    · rintro (⟨v, h1, h2, h3⟩ | h)
      · exact ⟨v, h1, by omega, h3⟩
      · exact ⟨lo + c, by omega, by omega, h⟩
    · rintro ⟨v, h1, h2, h3⟩
      by_cases h : v = lo + c
      · subst h; exact .inr h3
      · exact .inl ⟨v, h1, by omega, h3⟩
theorem catF_eq (f : Int → List Tr) (lo : Int) : ∀ c, catF f lo c = catG f lo c
  | 0 => rfl
  | c + 1 => by rw [catF, catG, catF_eq f lo c]
theorem catG_bind {α β : Type} (f : Int → List α) (g : α → List β) (lo : Int) : ∀ c, (catG f lo c).flatMap g = catG (fun v => (f v).flatMap g) lo c
  | 0 => rfl
  | c + 1 => by rw [catG, catG, List.flatMap_append, catG_bind f g lo c]
theorem catG_congr {α : Type} {f g : Int → List α} {lo : Int} : ∀ {c : Nat}, (∀ v, lo ≤ v → v < lo + c → f v = g v) → catG f lo c = catG g lo c
  | 0, _ => rfl
  | c + 1, h => by rw [catG, catG, catG_congr (c := c) fun v h1 h2 => h v h1 (by omega), h _ (by omega) (by omega)]
theorem catG_filter {α : Type} (f : Int → List α) (q : α → Bool) (lo : Int) : ∀ c, (catG f lo c).filter q = catG (fun v => (f v).filter q) lo c
  | 0 => rfl
  | c + 1 => by rw [catG, catG, List.filter_append, catG_filter f q lo c]
/-- All functions with numbers of spans, from place n - r on. -/
def lsts (lo hi : Nat → Int) (n : Nat) : Nat → (Nat → Int) → List (Nat → Int)
  | 0, h => [h]
  | r + 1, h => catG (fun v => lsts lo hi n r (upd h (n - (r + 1)) v)) (lo (n - (r + 1))) (hi (n - (r + 1)) - lo (n - (r + 1)) + 1).toNat
theorem lsts_mem {lo hi : Nat → Int} {n : Nat} : ∀ {r : Nat} {h x : Nat → Int}, r ≤ n → (x ∈ lsts lo hi n r h ↔ (∀ i, n - r ≤ i → i < n → lo i ≤ x i ∧ x i ≤ hi i) ∧ ∀ i, (i < n - r ∨ n ≤ i) → x i = h i)
  | 0, h, x, _ => by
    simp only [lsts, List.mem_singleton]
    constructor
    · rintro rfl
      exact ⟨fun i h1 h2 => by omega, fun i _ => rfl⟩
    · rintro ⟨_, h2⟩
      exact funext fun i => h2 i (by omega)
  | r + 1, h, x, hr => by
    simp only [lsts, catG_mem]
    constructor
    · rintro ⟨v, h1, h2, h3⟩
      obtain ⟨a, b⟩ := (lsts_mem (by omega)).1 h3
      have e := b (n - (r + 1)) (by omega)
      simp only [upd, if_true] at e
      refine ⟨fun i hi hi' => ?_, fun i hi => ?_⟩
      · by_cases hj : i = n - (r + 1)
        · subst hj; omega
        · exact a i (by omega) hi'
      · rw [b i (by omega)]
        simp only [upd]
        rw [if_neg (by omega)]
    · rintro ⟨a, b⟩
      have := a (n - (r + 1)) (Nat.le_refl _) (by omega)
      refine ⟨x (n - (r + 1)), this.1, by omega, (lsts_mem (by omega)).2 ⟨fun i hi hi' => a i (by omega) hi', fun i hi => ?_⟩⟩
      simp only [upd]
      split
      · rename_i e
        rw [e]
      · exact b i (by omega)
theorem catG_nodup {α : Type} {f : Int → List α} {lo : Int} (k : α → Int) : ∀ {c : Nat}, (∀ v, lo ≤ v → v < lo + c → (f v).Nodup ∧ ∀ x ∈ f v, k x = v) → (catG f lo c).Nodup
  | 0, _ => List.nodup_nil
  | c + 1, h => by
    rw [catG, List.nodup_append]
    refine ⟨catG_nodup k fun v h1 h2 => h v h1 (by omega), (h _ (by omega) (by omega)).1, fun a ha b hb e => ?_⟩
    subst e
    obtain ⟨v, h1, h2, h3⟩ := catG_mem.1 ha
    have e1 := (h v h1 (by omega)).2 a h3
    have e2 := (h _ (by omega) (by omega)).2 a hb
    omega
theorem lsts_nodup {lo hi : Nat → Int} {n : Nat} : ∀ {r : Nat} {h : Nat → Int}, r ≤ n → (lsts lo hi n r h).Nodup
  | 0, h, _ => by simp [lsts]
  | r + 1, h, hr => by
    rw [lsts]
    refine catG_nodup (fun x => x (n - (r + 1))) fun v _ _ => ⟨lsts_nodup (by omega), fun x hx => ?_⟩
    have := ((lsts_mem (by omega)).1 hx).2 (n - (r + 1)) (by omega)
    simpa [upd] using this

/-! ### Products -/
/-- How many numbers of the first c from lo on are so. -/
def cntI (q : Int → Bool) (lo : Int) : Nat → Nat
  | 0 => 0
  | c + 1 => cntI q lo c + if q (lo + c) = true then 1 else 0
def prodF (f : Nat → Nat) (a : Nat) : Nat → Nat
  | 0 => 1
  | r + 1 => f a * prodF f (a + 1) r
/-- From a on, r of them. -/
def allF (f : Nat → Bool) (a : Nat) : Nat → Bool
  | 0 => true
  | r + 1 => f a && allF f (a + 1) r
theorem allF_iff {f : Nat → Bool} : ∀ {r a : Nat}, allF f a r = true ↔ ∀ i, a ≤ i → i < a + r → f i = true
  | 0, a => by
    simp only [allF, true_iff]
    intro i h1 h2
    omega
  | r + 1, a => by
    simp only [allF, Bool.and_eq_true, allF_iff (r := r)]
    constructor
    · rintro ⟨h1, h2⟩ i hi hi'
      rcases Nat.eq_or_lt_of_le hi with rfl | h
      · exact h1
      · exact h2 i (by omega) (by omega)
    · exact fun h => ⟨h a (by omega) (by omega), fun i h1 h2 => h i (by omega) (by omega)⟩
theorem catG_count {α : Type} {f : Int → List α} {q : Int → Bool} {lo : Int} {N : Nat} : ∀ {c : Nat}, (∀ v, lo ≤ v → v < lo + c → (f v).length = if q v = true then N else 0) → (catG f lo c).length = cntI q lo c * N
  | 0, _ => by simp [catG, cntI]
  | c + 1, h => by
    rw [catG, List.length_append, catG_count (c := c) fun v h1 h2 => h v h1 (by omega), h _ (by omega) (by omega), cntI, Nat.add_mul]
    congr 1
    split <;> simp
theorem lsts_count {lo hi : Nat → Int} {n : Nat} (q : Nat → Int → Bool) : ∀ {r : Nat} {h : Nat → Int}, r ≤ n →
    ((lsts lo hi n r h).filter fun x => allF (fun i => q i (x i)) (n - r) r).length = prodF (fun i => cntI (q i) (lo i) (hi i - lo i + 1).toNat) (n - r) r
  | 0, h, _ => by simp [lsts, allF, prodF]
  | r + 1, h, hr => by
    have e1 : n - (r + 1) + 1 = n - r := by omega
    rw [lsts, catG_filter, prodF, e1]
    refine catG_count fun v _ _ => ?_
    have e : ∀ x ∈ lsts lo hi n r (upd h (n - (r + 1)) v), allF (fun i => q i (x i)) (n - (r + 1)) (r + 1) = (q (n - (r + 1)) v && allF (fun i => q i (x i)) (n - r) r) := fun x hx => by
      have := ((lsts_mem (by omega)).1 hx).2 (n - (r + 1)) (by omega)
      simp only [upd, if_true] at this
      rw [allF, e1, this]
    rw [List.filter_congr e]
    cases hq : q (n - (r + 1)) v
    · simp
    · simp only [Bool.true_and, if_true]
      exact lsts_count q (by omega)
theorem manyF_prod (x : Tr) (f : Nat → Nat) : ∀ (r a : Nat), (∀ i, a ≤ i → i < a + r → oc64 (x.s i) = (f i : Int)) → manyF x (a + r) = manyF x a * (prodF f a r : Int)
  | 0, a, _ => by simp [prodF]
  | r + 1, a, h => by
    have := manyF_prod x f r (a + 1) fun i h1 h2 => h i (by omega) (by omega)
    rw [show a + (r + 1) = a + 1 + r by omega, this, manyF, h a (by omega) (by omega), prodF, Int.mul_assoc]
    push_cast
    rfl
end Go.Proofs.YtipbempkngfdbaaDoor
/-
  What the set of heights of sand at a place says.
-/
namespace Go.Proofs.YtipbempkngfdbaaDoor
open Go Go.Sy
set_option maxRecDepth 100000
set_option maxHeartbeats 4000000

def maskF (f : Nat → Bool) : Nat → Nat
  | 0 => 0
  | c + 1 => maskF f c + if f c = true then 2 ^ c else 0
def cntN (f : Nat → Bool) : Nat → Nat
  | 0 => 0
  | c + 1 => cntN f c + if f c = true then 1 else 0
def loM (m : Nat) : Nat := if m % 2 = 1 then 0 else if m % 4 = 2 then 1 else 2
def hiM (m : Nat) : Nat := if 4 ≤ m then 3 else if 2 ≤ m then 2 else 1
theorem maskF_congr {f g : Nat → Bool} : ∀ {c : Nat}, (∀ j, j < c → f j = g j) → maskF f c = maskF g c
  | 0, _ => rfl
  | c + 1, h => by rw [maskF, maskF, maskF_congr (c := c) fun j hj => h j (by omega), h c (by omega)]
theorem cntN_congr {f g : Nat → Bool} : ∀ {c : Nat}, (∀ j, j < c → f j = g j) → cntN f c = cntN g c
  | 0, _ => rfl
  | c + 1, h => by rw [cntN, cntN, cntN_congr (c := c) fun j hj => h j (by omega), h c (by omega)]
theorem cntI_N (q : Int → Bool) (lo : Int) : ∀ c, cntI q lo c = cntN (fun j => q (lo + (j : Nat))) c
  | 0 => rfl
  | c + 1 => by rw [cntI, cntN, cntI_N q lo c]
def bs (a b d : Bool) (j : Nat) : Bool := [a, b, d].getD j false
theorem mask_d1 : ∀ c, c < 4 → ∀ a b d : Bool, maskF (bs a b d) c < 8 ∧ (maskF (bs a b d) c = 0 ↔ ∀ j, j < c → bs a b d j = false) := by decide
theorem mask_d3 : ∀ c, c < 4 → ∀ a b d : Bool, (if maskF (bs a b d) c = 0 then 0 else if maskF (bs a b d) c = 1 ∨ maskF (bs a b d) c = 2 ∨ maskF (bs a b d) c = 4 then 1 else if maskF (bs a b d) c = 7 then 3 else 2) = cntN (bs a b d) c := by decide
theorem mask_d4 : ∀ c, c < 4 → ∀ a b d : Bool, maskF (bs a b d) c ≠ 0 → loM (maskF (bs a b d) c) < c ∧ hiM (maskF (bs a b d) c) - 1 < c ∧ bs a b d (loM (maskF (bs a b d) c)) = true ∧ bs a b d (hiM (maskF (bs a b d) c) - 1) = true := by decide
theorem mask_d5 : ∀ c, c < 4 → ∀ a b d : Bool, maskF (bs a b d) c ≠ 0 → ∀ j, j < c → bs a b d j = true → loM (maskF (bs a b d) c) ≤ j ∧ j ≤ hiM (maskF (bs a b d) c) - 1 := by decide
theorem mask_d6 : ∀ c, c < 4 → ∀ a b d : Bool, ∀ j, j < c → (maskF (bs a b d) c).testBit j = bs a b d j := by decide
theorem oc_zero : oc64 0 = 0 := by decide
theorem bs_eq (f : Nat → Bool) {c : Nat} (hc : c < 4) : ∀ j, j < c → f j = bs (f 0) (f 1) (f 2) j := fun j hj => by
  have : j = 0 ∨ j = 1 ∨ j = 2 := by omega
  rcases this with rfl | rfl | rfl <;> rfl
theorem setF_mask {t : TD} {h : Nat → Int} {p : Nat} (h0 : 0 ≤ t.slo p) : ∀ c : Nat, t.setF h p c = ((maskF (fun j => t.ok1 h p (t.slo p + (j : Nat))) c * 2 ^ (t.slo p).toNat : Nat) : Int)
  | 0 => by simp [TD.setF, maskF]
  | c + 1 => by
    have e : (t.slo p + c).toNat = (t.slo p).toNat + c := by omega
    rw [TD.setF, setF_mask h0 c, e, maskF]
    split
    · rw [Nat.add_mul, ← Nat.pow_add, Nat.add_comm c]
      push_cast
      rfl
    · simp
/-- All that is said of the set of a place. -/
structure SetIs (t : TD) (h : Nat → Int) (p : Nat) : Prop where
  zero : t.set h p = 0 ↔ ∀ v, t.slo p ≤ v → v ≤ t.shi p → t.ok1 h p v = false
  many : oc64 (t.set h p) = (cntI (t.ok1 h p) (t.slo p) (t.shi p - t.slo p + 1).toNat : Int)
  ends : t.set h p ≠ 0 → (t.slo p ≤ loE (t.set h p) ∧ loE (t.set h p) ≤ t.shi p ∧ t.ok1 h p (loE (t.set h p)) = true) ∧ (t.slo p ≤ hiE (t.set h p) ∧ hiE (t.set h p) ≤ t.shi p ∧ t.ok1 h p (hiE (t.set h p)) = true) ∧
    ∀ v, t.slo p ≤ v → v ≤ t.shi p → t.ok1 h p v = true → loE (t.set h p) ≤ v ∧ v ≤ hiE (t.set h p)
  bit : ∀ v, t.slo p ≤ v → v ≤ t.shi p → bitAt (t.set h p) v = if t.ok1 h p v = true then ((2 ^ v.toNat : Nat) : Int) else 0
theorem set_is {t : TD} (hv : t.Valid) (h : Nat → Int) {p : Nat} (hp : p < t.nS) : SetIs t h p := by
  have hs := hv.2.2.2.2.1 p hp
  simp only [TD.sandOk] at hs
  obtain ⟨c, hc⟩ : ∃ c, c = (t.shi p - t.slo p + 1).toNat := ⟨_, rfl⟩
  have hc4 : c < 4 := by omega
  have hcs : (c : Int) = t.shi p - t.slo p + 1 := by omega
  obtain ⟨f, hf⟩ : ∃ f : Nat → Bool, f = fun j => t.ok1 h p (t.slo p + (j : Nat)) := ⟨_, rfl⟩
  have hfv : ∀ v, t.slo p ≤ v → t.ok1 h p v = f (v - t.slo p).toNat := fun v h1 => by
    rw [hf]
    show _ = t.ok1 h p (t.slo p + ((v - t.slo p).toNat : Int))
    rw [show t.slo p + ((v - t.slo p).toNat : Int) = v by omega]
  have e0 := setF_mask (t := t) (h := h) hs.1.1 c
  rw [← hf] at e0
  have eb := bs_eq f hc4
  have d0 := mask_d1 c hc4 (f 0) (f 1) (f 2)
  have d3 := mask_d3 c hc4 (f 0) (f 1) (f 2)
  have d4a := mask_d4 c hc4 (f 0) (f 1) (f 2)
  have d4b := mask_d5 c hc4 (f 0) (f 1) (f 2)
  have d5 := mask_d6 c hc4 (f 0) (f 1) (f 2)
  rw [← maskF_congr eb] at d0 d3 d4a d4b d5
  rw [← cntN_congr eb] at d3
  obtain ⟨d1, d2⟩ := d0
  obtain ⟨lo, hlo⟩ : ∃ lo : Nat, t.slo p = lo := ⟨(t.slo p).toNat, by omega⟩
  have hl61 : lo < 61 := by omega
  have eS : t.set h p = ((maskF f c * 2 ^ lo : Nat) : Int) := by
    rw [TD.set, ← hc, e0, hlo]
    rfl
  have p0 : 0 < 2 ^ lo := Nat.pow_pos (by omega)
  have z : t.set h p = 0 ↔ maskF f c = 0 := by
    rw [eS]
    constructor
    · intro h1
      have h2 : maskF f c * 2 ^ lo = 0 := by omega
      rcases Nat.mul_eq_zero.1 h2 with h3 | h3
      · exact h3
      · omega
    · intro h1
      rw [h1, Nat.zero_mul]
      rfl
  have few : maskF f c ≠ 0 → loE (t.set h p) = lo + loM (maskF f c) ∧ hiE (t.set h p) = lo + hiM (maskF f c) - 1 ∧ oc64 (t.set h p) = (if maskF f c = 1 ∨ maskF f c = 2 ∨ maskF f c = 4 then 1 else if maskF f c = 7 then 3 else 2) := fun h1 => by
    have hfew := few_all lo hl61 (maskF f c) d1 (by omega)
    simp only [fewOk, Bool.and_eq_true, decide_eq_true_eq] at hfew
    obtain ⟨_, a3, a4, a5⟩ := hfew
    rw [← eS] at a3 a4
    refine ⟨?_, ?_, a4⟩
    · rw [loE, a3, loM]
      push_cast
      congr 1
      repeat' split
      all_goals rfl
    · rw [hiE, eS, Int.toNat_natCast, a5, hiM]
      repeat' split
      all_goals (push_cast; omega)
  refine ⟨?_, ?_, ?_, ?_⟩
  · rw [z, d2]
    constructor
    · intro h1 v h2 h3
      rw [hfv v h2, eb (v - t.slo p).toNat (by omega)]
      exact h1 (v - t.slo p).toNat (by omega)
    · intro h1 j hj
      have := h1 (t.slo p + j) (by omega) (by omega)
      rw [hfv _ (by omega), show (t.slo p + (j : Int) - t.slo p).toNat = j by omega] at this
      rw [← eb j hj]
      exact this
  · rw [cntI_N, ← hc, ← hf, ← d3]
    by_cases h1 : maskF f c = 0
    · rw [z.2 h1, if_pos h1, oc_zero]
      rfl
    · rw [(few h1).2.2, if_neg h1]
      repeat' split
      all_goals rfl
  · intro h1
    have h1' : maskF f c ≠ 0 := fun h2 => h1 (z.2 h2)
    obtain ⟨f1, f2, _⟩ := few h1'
    obtain ⟨g1, g2, g3, g4⟩ := d4a h1'
    have g5 := d4b h1'
    have hh : 1 ≤ hiM (maskF f c) := by
      unfold hiM
      repeat' split
      all_goals omega
    rw [f1, f2]
    clear few z eS e0 d3 d4a d4b d5 p0 f1 f2 h1
    refine ⟨⟨by omega, by omega, ?_⟩, ⟨by omega, by omega, ?_⟩, fun v h2 h3 h4 => ?_⟩
    · rw [hfv _ (by omega), show ((lo : Int) + (loM (maskF f c) : Int) - t.slo p).toNat = loM (maskF f c) by omega, eb _ g1]
      exact g3
    · rw [hfv _ (by omega), show ((lo : Int) + (hiM (maskF f c) : Int) - 1 - t.slo p).toNat = hiM (maskF f c) - 1 by omega, eb _ g2]
      exact g4
    · rw [hfv v h2, eb (v - t.slo p).toNat (by omega)] at h4
      have := g5 (v - t.slo p).toNat (by omega) h4
      omega
  · intro v h2 h3
    have hm : maskF f c * 2 ^ lo < 2 ^ 64 := by
      have : 2 ^ lo ≤ 2 ^ 60 := Nat.pow_le_pow_right (by omega) (by omega)
      have := Nat.mul_le_mul (show maskF f c ≤ 7 by omega) this
      omega
    have := bitAt_or (maskF f c * 2 ^ lo) v.toNat hm (by omega)
    rw [show ((v.toNat : Nat) : Int) = v by omega] at this
    rw [eS, this]
    have e1 : (maskF f c * 2 ^ lo).testBit v.toNat = t.ok1 h p v := by
      rw [Nat.testBit_mul_two_pow, hfv v h2, eb (v - t.slo p).toNat (by omega), show (v - t.slo p).toNat = v.toNat - lo by omega, d5 (v.toNat - lo) (by omega)]
      simp
      omega
    rw [e1]
end Go.Proofs.YtipbempkngfdbaaDoor
/-
  What is told, by truths one by one.
-/
namespace Go.Proofs.YtipbempkngfdbaaDoor
open Go Go.Sy
set_option maxRecDepth 100000
set_option maxHeartbeats 4000000

/-- All looks can be so. -/
def TD.right (t : TD) (h s : Nat → Int) : Bool := allB (fun i => t.fit h i (s (t.lp i).toNat)) t.nL
def TD.hts (t : TD) : List (Nat → Int) := lsts t.mlo t.mhi t.nM t.nM fun _ => 0
def TD.sds (t : TD) : List (Nat → Int) := lsts t.slo t.shi t.nS t.nS fun _ => 0
/-- All truths. -/
def TD.tru (t : TD) : List ((Nat → Int) × (Nat → Int)) := t.hts.flatMap fun h => (t.sds.filter (t.right h)).map fun s => (h, s)
theorem hts_mem {t : TD} {h : Nat → Int} : h ∈ t.hts ↔ (∀ i, i < t.nM → t.mlo i ≤ h i ∧ h i ≤ t.mhi i) ∧ ∀ i, t.nM ≤ i → h i = 0 := by
  rw [TD.hts, lsts_mem (Nat.le_refl _)]
  constructor
  · rintro ⟨a, b⟩
    exact ⟨fun i hi => a i (by omega) hi, fun i hi => b i (.inr hi)⟩
  · rintro ⟨a, b⟩
    exact ⟨fun i _ hi => a i hi, fun i hi => b i (by omega)⟩
theorem sds_mem {t : TD} {s : Nat → Int} : s ∈ t.sds ↔ (∀ i, i < t.nS → t.slo i ≤ s i ∧ s i ≤ t.shi i) ∧ ∀ i, t.nS ≤ i → s i = 0 := by
  rw [TD.sds, lsts_mem (Nat.le_refl _)]
  constructor
  · rintro ⟨a, b⟩
    exact ⟨fun i hi => a i (by omega) hi, fun i hi => b i (.inr hi)⟩
  · rintro ⟨a, b⟩
    exact ⟨fun i _ hi => a i hi, fun i hi => b i (by omega)⟩
theorem tru_mem {t : TD} {x : (Nat → Int) × (Nat → Int)} : x ∈ t.tru ↔ x.1 ∈ t.hts ∧ x.2 ∈ t.sds ∧ t.right x.1 x.2 = true := by
  obtain ⟨h, s⟩ := x
  simp only [TD.tru, List.mem_flatMap, List.mem_map, List.mem_filter]
  constructor
  · rintro ⟨a, h1, b, ⟨h2, h3⟩, h4⟩
    cases h4
    exact ⟨h1, h2, h3⟩
  · rintro ⟨h1, h2, h3⟩
    exact ⟨h, h1, s, ⟨h2, h3⟩, rfl⟩
theorem right_iff {t : TD} (hv : t.Valid) {h s : Nat → Int} : t.right h s = true ↔ ∀ p, p < t.nS → t.ok1 h p (s p) = true := by
  simp only [TD.right, TD.ok1, allB_iff]
  constructor
  · intro a p hp i hi
    have := a i hi
    by_cases e : t.lp i = p
    · rw [e, Int.toNat_natCast] at this
      simp [e, this]
    · simp [e]
  · intro a i hi
    have hl := hv.2.2.2.2.2 i hi
    simp only [TD.lookOk] at hl
    have hS := hv.2.1
    have := a (t.lp i).toNat (by omega) i hi
    have e : t.lp i = (t.lp i).toNat := by omega
    simpa [← e] using this
theorem right_all {t : TD} (hv : t.Valid) (h s : Nat → Int) : t.right h s = allF (fun i => t.ok1 h i (s i)) 0 t.nS := by
  rw [Bool.eq_iff_iff, right_iff hv, allF_iff]
  exact ⟨fun a i _ hi => a i (by omega), fun a i hi => a i (by omega) (by omega)⟩

/-! ### The program's truths -/
def TD.some (t : TD) (h : Nat → Int) : Bool := allB (fun p => !decide (t.set h p = 0)) t.nS
theorem tls_eq (t : TD) : ∀ (r : Nat) (h : Nat → Int), t.tls r h = (lsts t.mlo t.mhi t.nM r h).flatMap fun g => if t.some g = true then [t.tr g] else []
  | 0, h => by
    simp only [TD.tls, lsts, TD.some, List.flatMap_cons, List.flatMap_nil, List.append_nil]
    rfl
  | r + 1, h => by
    rw [TD.tls, lsts, catG_bind, catF_eq]
    exact catG_congr fun v _ _ => tls_eq t r _
theorem all_eq (t : TD) : t.all = t.hts.flatMap fun g => if t.some g = true then [t.tr g] else [] := tls_eq t t.nM _
theorem all_mem {t : TD} {x : Tr} : x ∈ t.all ↔ ∃ h ∈ t.hts, t.some h = true ∧ x = t.tr h := by
  rw [all_eq, List.mem_flatMap]
  constructor
  · rintro ⟨h, h1, h2⟩
    split at h2
    · rename_i h3
      exact ⟨h, h1, h3, by simpa using h2⟩
    · simp at h2
  · rintro ⟨h, h1, h2, rfl⟩
    exact ⟨h, h1, by simp [h2]⟩
theorem some_iff {t : TD} (_ : t.Valid) {h : Nat → Int} : t.some h = true ↔ ∀ p, p < t.nS → t.set h p ≠ 0 := by
  simp [TD.some, allB_iff]
theorem some_of {t : TD} (hv : t.Valid) {h s : Nat → Int} (hs : s ∈ t.sds) (hr : t.right h s = true) : t.some h = true := by
  refine (some_iff hv).2 fun p hp e => ?_
  have h1 := (right_iff hv).1 hr p hp
  have h2 := (sds_mem.1 hs).1 p hp
  rw [(set_is hv h hp).zero.1 e _ h2.1 h2.2] at h1
  cases h1
/-- The sand by a choice for each place. -/
def sandBy (t : TD) (f : Nat → Int) (p : Nat) : Int := if p < t.nS then f p else 0
theorem sand_right {t : TD} (hv : t.Valid) {h f : Nat → Int} (hf : ∀ p, p < t.nS → t.slo p ≤ f p ∧ f p ≤ t.shi p ∧ t.ok1 h p (f p) = true) : sandBy t f ∈ t.sds ∧ t.right h (sandBy t f) = true := by
  refine ⟨sds_mem.2 ⟨fun i hi => ?_, fun i hi => ?_⟩, (right_iff hv).2 fun p hp => ?_⟩
  · simp only [sandBy, if_pos hi]
    exact ⟨(hf i hi).1, (hf i hi).2.1⟩
  · simp only [sandBy, if_neg (by omega : ¬ i < t.nS)]
  · simp only [sandBy, if_pos hp]
    exact (hf p hp).2.2
theorem all_nil {t : TD} (hv : t.Valid) : t.all = [] ↔ t.tru = [] := by
  constructor
  · intro h0
    refine List.eq_nil_iff_forall_not_mem.2 fun x hx => ?_
    obtain ⟨h1, h2, h3⟩ := tru_mem.1 hx
    have : t.tr x.1 ∈ t.all := all_mem.2 ⟨_, h1, some_of hv h2 h3, rfl⟩
    rw [h0] at this
    simp at this
  · intro h0
    refine List.eq_nil_iff_forall_not_mem.2 fun x hx => ?_
    obtain ⟨h, h1, h2, rfl⟩ := all_mem.1 hx
    have hs := (some_iff hv).1 h2
    obtain ⟨g1, g2⟩ := sand_right hv (h := h) (f := fun p => loE (t.set h p)) fun p hp => ((set_is hv h hp).ends (hs p hp)).1
    have : (h, sandBy t fun p => loE (t.set h p)) ∈ t.tru := tru_mem.2 ⟨h1, g1, g2⟩
    rw [h0] at this
    simp at this

/-! ### How many -/
theorem count_h {t : TD} (hv : t.Valid) (h : Nat → Int) : manyF (t.tr h) t.nS = ((t.sds.filter (t.right h)).length : Int) := by
  have e := lsts_count (lo := t.slo) (hi := t.shi) (n := t.nS) (t.ok1 h) (r := t.nS) (h := fun _ => 0) (Nat.le_refl _)
  rw [Nat.sub_self] at e
  have e2 : t.sds.filter (t.right h) = t.sds.filter fun x => allF (fun i => t.ok1 h i (x i)) 0 t.nS := List.filter_congr fun x _ => right_all hv h x
  rw [e2, TD.sds, e]
  have := manyF_prod (t.tr h) (fun i => cntI (t.ok1 h i) (t.slo i) (t.shi i - t.slo i + 1).toNat) t.nS 0 fun i _ hi => by
    have hi' : i < t.nS := by omega
    simp only [TD.tr, if_pos hi']
    exact (set_is hv h hi').many
  rw [Nat.zero_add, manyF, Int.one_mul] at this
  exact this
theorem count_none {t : TD} (hv : t.Valid) {h : Nat → Int} (hn : ¬ t.some h = true) : t.sds.filter (t.right h) = [] :=
  List.filter_eq_nil_iff.2 fun _ hs hr => hn (some_of hv hs hr)
theorem sumF_tru {t : TD} (hv : t.Valid) : ∀ L : List (Nat → Int), sumF t (L.flatMap fun g => if t.some g = true then [t.tr g] else []) = ((L.flatMap fun h => (t.sds.filter (t.right h)).map fun s => (h, s)).length : Int)
  | [] => rfl
  | h :: L => by
    rw [List.flatMap_cons, List.flatMap_cons, sumF_app, sumF_tru hv L, List.length_append, List.length_map]
    push_cast
    congr 1
    split
    · simp only [sumF]
      rw [count_h hv]
      omega
    · rename_i hn
      rw [count_none hv hn]
      rfl
theorem count_tru {t : TD} (hv : t.Valid) : t.countT = ⟨t.tru.length, 0⟩ := by
  have := sumF_tru hv t.hts
  rw [← all_eq] at this
  simp only [TD.countT, hv, not_true, if_false, this]
  rfl
end Go.Proofs.YtipbempkngfdbaaDoor
