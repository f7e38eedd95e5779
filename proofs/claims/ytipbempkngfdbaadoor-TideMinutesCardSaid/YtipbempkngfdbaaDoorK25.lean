/-
  Parts: Sy28, G2, G4.
-/
import Derived.Test.YtipbempkngfdbaaDoorK23
set_option linter.unusedVariables false
/-
  Sy28: lists of lists of numbers: a pool of rows, how it is begun, how a row comes to it, how a row is read; blocks that are locked for a while. No program is named.
-/
namespace Go.Sy

/-- A block more, beside those that are there. -/
theorem Sat.plus {η : Nam} {φ : Feet} {h : SHeap} {w0 w : World} {Ef : Nat → Prop} (s : Sat η φ h w0 Ef w) {o' : SObj} {a' : Nat × Nat} (F' : Nat → Prop)
    (hh : o'.holds (η.put h.length a') a' F' w) (hb : ∀ b, o'.foot a' F' b → b < w.heap.size)
    (ho : o'.rw = true → ∀ b, o'.foot a' F' b → Ef b ∨ w0.heap.size ≤ b)
    (h1 : o'.rw = true → ∀ j oj aj b, h[j]? = some (some oj) → η j = some aj → o'.foot a' F' b → ¬ oj.foot aj (φ j) b)
    (h2 : ∀ j oj aj b, h[j]? = some (some oj) → η j = some aj → oj.rw = true → oj.foot aj (φ j) b → ¬ o'.foot a' F' b) :
    η.le (η.put h.length a') ∧ Sat (η.put h.length a') (fun k => if k = h.length then F' else φ k) (h ++ [some o']) w0 Ef w := by
  have hnone : η h.length = none := s.free fun o => by rw [List.getElem?_eq_none (Nat.le_refl _)]; simp
  have hle := Nam.le_put (a := a') hnone
  have key : ∀ j oj, (h ++ [some o'])[j]? = some (some oj) → (j = h.length ∧ oj = o') ∨ (j ≠ h.length ∧ h[j]? = some (some oj)) := fun j oj hj => by
    rw [List.getElem?_append] at hj
    split at hj
    · rename_i hl; exact .inr ⟨by omega, hj⟩
    · rename_i hl
      rcases Nat.eq_or_lt_of_le (Nat.le_of_not_lt hl) with e | e
      · subst e; simp at hj; exact .inl ⟨rfl, hj.symm⟩
      · rw [List.getElem?_eq_none (by simp; omega)] at hj; cases hj
  refine ⟨hle, ?_⟩
  exact
    { size := s.size
      env := s.env
      keep := s.keep
      dom := fun j b hj => by
        by_cases hjn : j = h.length
        · subst hjn; exact ⟨o', by simp⟩
        · rw [Nam.put_other η _ hjn] at hj
          obtain ⟨o1, h1⟩ := s.dom j b hj
          have hl : j < h.length := by
            rcases Nat.lt_or_ge j h.length with h2 | h2
            · exact h2
            · rw [List.getElem?_eq_none h2] at h1; cases h1
          exact ⟨o1, by rw [List.getElem?_append_left hl]; exact h1⟩
      named := fun j oj hj => by
        rcases key j oj hj with ⟨rfl, _⟩ | ⟨_, h3⟩
        · exact ⟨a', Nam.put_same η _ _⟩
        · obtain ⟨b, hb⟩ := s.named j oj h3; exact ⟨b, hle j b hb⟩
      holds := fun j oj aj hj haj => by
        rcases key j oj hj with ⟨rfl, rfl⟩ | ⟨h4, h3⟩
        · rw [Nam.put_same] at haj; cases haj; simpa using hh
        · rw [Nam.put_other η _ h4] at haj; simp only [if_neg h4]; exact SObj.holds_mono hle (s.holds j oj aj h3 haj)
      bnd := fun j oj aj b hj haj hfb => by
        rcases key j oj hj with ⟨rfl, rfl⟩ | ⟨h4, h3⟩
        · rw [Nam.put_same] at haj; cases haj; simp only [if_true] at hfb; exact hb b hfb
        · rw [Nam.put_other η _ h4] at haj; simp only [if_neg h4] at hfb; exact s.bnd j oj aj b h3 haj hfb
      own := fun j oj aj b hj haj hr hfb => by
        rcases key j oj hj with ⟨rfl, rfl⟩ | ⟨h4, h3⟩
        · rw [Nam.put_same] at haj; cases haj; simp only [if_true] at hfb; exact ho hr b hfb
        · rw [Nam.put_other η _ h4] at haj; simp only [if_neg h4] at hfb; exact s.own j oj aj b h3 haj hr hfb
      sep := fun j k oj ok aj ak b hjk hj hk haj hak hr hfb hfk => by
        rcases key j oj hj with ⟨rfl, rfl⟩ | ⟨h4, h3⟩
        · rw [Nam.put_same] at haj; cases haj
          simp only [if_true] at hfb
          rcases key k ok hk with ⟨rfl, _⟩ | ⟨h5, h6⟩
          · exact hjk rfl
          · rw [Nam.put_other η _ h5] at hak
            simp only [if_neg h5] at hfk
            exact h1 hr k ok ak b h6 hak hfb hfk
        · rw [Nam.put_other η _ h4] at haj
          simp only [if_neg h4] at hfb
          rcases key k ok hk with ⟨rfl, rfl⟩ | ⟨h5, h6⟩
          · rw [Nam.put_same] at hak; cases hak
            simp only [if_true] at hfk
            exact h2 j oj aj b h3 haj hr hfb hfk
          · rw [Nam.put_other η _ h5] at hak
            simp only [if_neg h5] at hfk
            exact s.sep j k oj ok aj ak b hjk h3 h6 haj hak hr hfb hfk }
theorem pin_put {η : Nam} {h : SHeap} {n : Nat} (hn : n ≤ h.length) (a : Nat × Nat) : Pin n η (η.put h.length a) := fun i hi => Nam.put_other η a (by omega)

/-- An empty pool. -/
theorem entPool {n : Nat} {T : Tm} {H : SHeap} {D : List SV} (len : Nat → Nat) (get : Nat → Nat → Int) : Ent n ⟨T, H, D⟩ ⟨T, H ++ [some (.pool true 0 len get)], D⟩ := by
  intro η φ w0 Ef w a hn hs hT hD
  have no : ∀ F b, ¬ (SObj.pool true 0 len get).foot (0, 0) F b := fun F b hb => by
    obtain ⟨k, hk⟩ := hb
    rw [padr_zero] at hk
    cases hk
  obtain ⟨hle, hs2⟩ := hs.plus (o' := .pool true 0 len get) (a' := (0, 0)) (fun _ => False) (fun k hk => by omega) (fun b hb => (no _ b hb).elim) (fun _ b hb => (no _ b hb).elim) (fun _ _ _ _ b _ _ hb => (no _ b hb).elim) (fun _ _ _ b _ _ _ _ hb => (no _ b hb).elim)
  exact ⟨_, _, pin_put hn _, by simp only [List.length_append, List.length_singleton]; exact Nat.le_trans hn (Nat.le_succ _), hs2, hT.mono hle, hD.mono hle⟩

/-- A row of a pool that is only read, said as a block of its own. -/
theorem entRow {n : Nat} {T T' : Tm} {H : SHeap} {D : List SV} {j np : Nat} {len : Nat → Nat} {get : Nat → Nat → Int} (hj : H[j]? = some (some (.pool false np len get))) (k : Nat) (hk : k < np) (hpos : 0 < len k)
    (hT' : ∀ (η : Nam) (b : Nat) (tm : Array Value), η H.length = some (b, 0) → (∀ l c, den η (.row j k l c) = some (.slice (some ⟨b, 0, none⟩) l c)) → TRel η T tm → TRel η T' tm) :
    Ent n ⟨T, H, D⟩ ⟨T', H ++ [some (.roa 1 (len k) fun m => [.int .i64 (get k m)])], D⟩ := by
  intro η φ w0 Ef w a hn hs hT hD
  obtain ⟨aj, haj⟩ := hs.named j _ hj
  rcases hs.holds j _ aj hj haj k hk with ⟨_, h0⟩ | ⟨b, Ty, c, h1, h3, h4⟩
  · omega
  have ft : ∀ x, x = b → (SObj.pool false np len get).foot aj (φ j) x := fun x e => ⟨k, by rw [e]; exact h1⟩
  obtain ⟨hle, hs2⟩ := hs.plus (o' := .roa 1 (len k) fun m => [.int .i64 (get k m)]) (a' := (b, 0)) (fun _ => False)
    ⟨c, Ty, (0, 0), h3, fun m hm => ⟨[.int .i64 (get k m)], rfl, rfl, fun i v hi => by
      cases i with
      | zero => simp at hi; subst hi; simpa using h4 m hm
      | succ i => simp at hi⟩⟩
    (fun x hx => hs.bnd j _ aj x hj haj (ft x (Eq.symm hx))) (fun hr => by cases hr) (fun hr => by cases hr)
    (fun i oi ai x hi hai hr hfx hx => by
      by_cases hij : i = j
      · subst hij; rw [hj] at hi; cases hi; cases hr
      · exact hs.sep i j oi _ ai aj x hij hi hj hai haj hr hfx (ft x (Eq.symm hx)))
  refine ⟨_, _, pin_put hn _, by simp only [List.length_append, List.length_singleton]; exact Nat.le_trans hn (Nat.le_succ _), hs2, hT' _ b _ (Nam.put_same η _ _) (fun l c => ?_) (hT.mono hle), hD.mono hle⟩
  simp only [den, hle j aj haj, Option.bind_some, h1, rowV]
/-- A function that is called with a row of a pool. -/
theorem CallP.row {P : Program} {f : FuncId} {args args' : List SV} {h : SHeap} {K : CE → SHeap → Prop} {j np : Nat} {len : Nat → Nat} {get : Nat → Nat → Int} (hj : h[j]? = some (some (.pool false np len get))) (k : Nat) (hk : k < np) (hpos : 0 < len k)
    (ha : ∀ (η : Nam) (b : Nat), η h.length = some (b, 0) → (∀ l c, den η (.row j k l c) = some (.slice (some ⟨b, 0, none⟩) l c)) → denL η args' = denL η args)
    (hc : CallP P f args' (h ++ [some (.roa 1 (len k) fun m => [.int .i64 (get k m)])]) K) : CallP P f args h K :=
  CallP.pre (entRow hj k hk hpos fun η b tm h1 h2 hT => by
    obtain ⟨tl⟩ := tm
    have := ha η b h1 h2
    rw [args_trel hT] at this
    exact trel_args this) hc
/-- What is handed back said otherwise. -/
theorem CallP.entR {P : Program} {f : FuncId} {args : List SV} {h h1 h2 : SHeap} {v v' : SV} (hc : CallP P f args h (Ret v h1)) (he : Ent h.length ⟨[some (none, v)], h1, []⟩ ⟨[some (none, v')], h2, []⟩) : CallP P f args h (Ret v' h2) :=
  CallP.ent (hc.mono fun ce h1' hk => by
    obtain ⟨rfl, rfl⟩ := hk
    exact ⟨.ret v', h2, ⟨rfl, rfl⟩, he⟩)

/-- How names go together when a row comes to a pool. -/
structure PushRel (η : Nam) (i j L n : Nat) : Prop where
  at' : ∃ ai aj aL : Nat × Nat, η i = some ai ∧ ai.2 = 0 ∧ η j = some aj ∧ η L = some aL ∧ (∀ k, k < n → padr aL.2 k = padr aj.2 k) ∧ padr aL.2 n = ai.1 + 1
theorem PushRel.old {η : Nam} {i j L n : Nat} (h : PushRel η i j L n) {k : Nat} (hk : k < n) (l c : Nat) : den η (.row j k l c) = den η (.row L k l c) := by
  obtain ⟨ai, aj, aL, h1, h2, h3, h4, h5, h6⟩ := h.at'
  simp only [den, h3, h4, Option.bind_some, h5 k hk]
theorem PushRel.new {η : Nam} {i j L n : Nat} (h : PushRel η i j L n) (l c : Nat) : den η (.slice i 1 0 l c) = den η (.row L n l c) := by
  obtain ⟨ai, aj, aL, h1, h2, h3, h4, h5, h6⟩ := h.at'
  simp only [den, h1, h4, Option.bind_some, Option.map_some, h6, rowV, h2]
theorem enc_push (c n x : Nat) : ∃ c', (∀ k, k < n → padr c' k = padr c k) ∧ padr c' n = x ∧ ∀ k, n < k → padr c' k = 0 := by
  refine ⟨encL ((List.range n).map (padr c) ++ [x]), fun k hk => ?_, ?_, fun k hk => ?_⟩
  · rw [padr_enc, List.getD, List.getElem?_append_left (by simpa using hk), List.getElem?_map, List.getElem?_range hk]
    rfl
  · rw [padr_enc, List.getD, List.getElem?_append_right (by simp)]
    simp
  · rw [padr_enc, List.getD, List.getElem?_eq_none (by simp; omega)]
    rfl

/-- A row comes to a pool; the array that has it says so. -/
theorem entPush {n : Nat} {T : Tm} {H : SHeap} {D : List SV} {i j o np m cap sz M capO : Nat} {g go go' : Nat → List SV} {len len' : Nat → Nat} {get get' : Nat → Nat → Int}
    (hi : H[i]? = some (some (.arr 1 m cap g))) (hj : H[j]? = some (some (.pool true np len get))) (hO : H[o]? = some (some (.arr sz M capO go))) (hne : o ≠ i)
    (hg : ∀ q, q < m → g q = [.int .i64 (get' np q)]) (hl : ∀ k, k < np → len' k = len k) (hln : len' np ≤ m) (hget : ∀ k, k < np → ∀ q, q < len k → get' k q = get k q)
    (hgo : ∀ η, PushRel η i j H.length np → ∀ k, k < M → denL η (go k) = denL η (go' k)) :
    Ent n ⟨T, H, D⟩ ⟨T, (((H.set i (some .dead)).set j (some .dead)).set o (some (.arr sz M capO go'))) ++ [some (.pool true (np + 1) len' get')], D⟩ := by
  intro η φ w0 Ef w a hn hs hT hD
  obtain ⟨ai, hai⟩ := hs.named i _ hi
  obtain ⟨aj, haj⟩ := hs.named j _ hj
  have hij : i ≠ j := fun e => by subst e; rw [hi] at hj; cases hj
  have hoi : o ≠ j := fun e => by subst e; rw [hO] at hj; cases hj
  obtain ⟨z0, Ty, c, hw, hsz, hmc, hel⟩ := hs.holds i _ ai hi hai
  have hp := hs.holds j _ aj hj haj
  obtain ⟨code, e1, e2, e3⟩ := enc_push aj.2 np (ai.1 + 1)
  have s1 := hs.less (o' := .dead) hi (fun _ _ hb => hb.elim) (fun hr => by cases hr) (fun _ _ => trivial)
  have hj1 : (H.set i (some .dead))[j]? = some (some (.pool true np len get)) := by rw [List.getElem?_set_ne hij]; exact hj
  have s2 := s1.less (o' := .dead) hj1 (fun _ _ hb => hb.elim) (fun hr => by cases hr) (fun _ _ => trivial)
  have foot : ∀ F x, (SObj.pool true (np + 1) len' get').foot (aj.1, code) F x → (SObj.arr 1 m cap g).foot ai (φ i) x ∨ (SObj.pool true np len get).foot aj (φ j) x := fun F x hx => by
    obtain ⟨k, h1⟩ := hx
    rcases Nat.lt_trichotomy k np with h | rfl | h
    · rw [e1 k h] at h1; exact .inr ⟨k, h1⟩
    · rw [e2] at h1; exact .inl (Nat.succ.inj h1)
    · rw [e3 k h] at h1; cases h1
  have key : ∀ q oq, ((H.set i (some .dead)).set j (some .dead))[q]? = some (some oq) → oq = .dead ∨ (q ≠ i ∧ q ≠ j ∧ H[q]? = some (some oq)) := fun q oq hq => by
    rcases get_set hq with ⟨_, h2, _⟩ | ⟨h1, h2⟩
    · cases h2; exact .inl rfl
    · rcases get_set h2 with ⟨_, h4, _⟩ | ⟨h3, h4⟩
      · cases h4; exact .inl rfl
      · exact .inr ⟨h3, h1, h4⟩
  obtain ⟨hle, s3⟩ := s2.plus (o' := .pool true (np + 1) len' get') (a' := (aj.1, code)) (fun _ => False)
    (fun k hk => by
      rcases Nat.lt_succ_iff_lt_or_eq.1 hk with h | rfl
      · rcases hp k h with ⟨h1, h2⟩ | ⟨b, Tb, cb, h1, h3, h4⟩
        · exact .inl ⟨by rw [e1 k h]; exact h1, by rw [hl k h]; exact h2⟩
        · exact .inr ⟨b, Tb, cb, by rw [e1 k h]; exact h1, h3, fun q hq => by rw [hl k h] at hq; rw [hget k h q hq]; exact h4 q hq⟩
      · refine .inr ⟨ai.1, Ty, c, e2, hw, fun q hq => ?_⟩
        obtain ⟨vs, d1, d2, d3⟩ := hel q (by omega)
        rw [hg q (by omega)] at d1
        simp only [denL, den, Option.bind_some, Option.map_some, Option.some.injEq] at d1
        subst d1
        simpa using d3 0 _ rfl)
    (fun x hx => by
      rcases foot _ x hx with h | h
      · exact hs.bnd i _ ai x hi hai h
      · exact hs.bnd j _ aj x hj haj h)
    (fun _ x hx => by
      rcases foot _ x hx with h | h
      · exact hs.own i _ ai x hi hai rfl h
      · exact hs.own j _ aj x hj haj rfl h)
    (fun _ q oq aq x hq haq hx hqx => by
      rcases key q oq hq with rfl | ⟨q1, q2, q3⟩
      · exact hqx
      · rcases foot _ x hx with h | h
        · exact hs.sep i q _ oq ai aq x (Ne.symm q1) hi q3 hai haq rfl h hqx
        · exact hs.sep j q _ oq aj aq x (Ne.symm q2) hj q3 haj haq rfl h hqx)
    (fun q oq aq x hq haq hr hqx hx => by
      rcases key q oq hq with rfl | ⟨q1, q2, q3⟩
      · exact hqx
      · rcases foot _ x hx with h | h
        · exact hs.sep i q _ oq ai aq x (Ne.symm q1) hi q3 hai haq rfl h hqx
        · exact hs.sep j q _ oq aj aq x (Ne.symm q2) hj q3 haj haq rfl h hqx)
  simp only [List.length_set] at s3 hle
  have rel : PushRel (η.put H.length (aj.1, code)) i j H.length np := ⟨ai, aj, (aj.1, code), hle i ai hai, z0, hle j aj haj, Nam.put_same η _ _, e1, e2⟩
  have lo : o < H.length := lt_of_get hO
  have hO3 : (((H.set i (some .dead)).set j (some .dead)) ++ [some (.pool true (np + 1) len' get')])[o]? = some (some (.arr sz M capO go)) := by
    rw [List.getElem?_append_left (by simpa using lo), List.getElem?_set_ne (Ne.symm hoi), List.getElem?_set_ne (Ne.symm hne)]
    exact hO
  have s4 := s3.less (o' := .arr sz M capO go') hO3 (fun _ _ hb => hb) (fun _ => rfl) (fun ad hh => by
    obtain ⟨h0, Ta, ca, h1, h2, h3, h4⟩ := hh
    refine ⟨h0, Ta, ca, h1, h2, h3, fun k hk => ?_⟩
    rw [← hgo _ rel k (by omega)]
    exact h4 k hk)
  rw [List.set_append_left _ _ (by simpa using lo)] at s4
  refine ⟨_, _, pin_put hn _, ?_, s4, hT.mono hle, hD.mono hle⟩
  simp only [List.length_append, List.length_singleton, List.length_set]
  exact Nat.le_trans hn (Nat.le_succ _)
end Go.Sy
/-
  Contract: dipworksref01.lists.
-/
namespace Go.Proofs.YtipbempkngfdbaaDoor
open Go Go.Sy
set_option linter.unusedSimpArgs false
set_option maxRecDepth 100000
set_option maxHeartbeats 4000000
attribute [local irreducible] CallP CodeP Ent YieldP

def rowI' (g : Nat → Int) (k : Nat) : List SV := [.int .i64 (g k)]
def rowsC (j N : Nat) (cp : Nat → Nat) (k : Nat) : List SV := [.row j k N (cp k)]
def poolL (own : Bool) (N : Nat) (L : List (Nat → Int)) : SObj := .pool own L.length (fun _ => N) fun k => L.getD k fun _ => 0
theorem catG_le {α : Type} (f : Int → List α) (lo : Int) {a : Nat} : ∀ {b : Nat}, a ≤ b → (catG f lo a).length ≤ (catG f lo b).length
  | 0, h => by rw [Nat.le_zero.1 h]; exact Nat.le_refl _
  | b + 1, h => by
    rcases Nat.eq_or_lt_of_le h with rfl | h
    · exact Nat.le_refl _
    · have := catG_le f lo (a := a) (b := b) (by omega)
      rw [catG, List.length_append]
      omega
/-- What lists hands back: all lists that were there, and these. -/
def K110 (N : Nat) (lo hi : Nat → Int) (L : List (Nat → Int)) : CE → SHeap → Prop := fun ce h' =>
  ∃ (cO : Nat) (cp : Nat → Nat), (L.length ≤ cO ∧ cO ≤ 9223372036854775807) ∧ ce = .ret (.slice 4 1 0 L.length cO) ∧ h' = [some (.roa 2 N (row2 lo hi)), some .dead, some .dead, some .dead, some (.arr 1 L.length cO (rowsC 5 N cp)), some (poolL true N L)]
noncomputable def H110 (N : Nat) (lo hi : Nat → Int) (d cb : Nat) (g : Nat → Int) (cO : Nat) (cp : Nat → Nat) (L : List (Nat → Int)) : SHeap := [some (.roa 2 N (row2 lo hi)), some (.arr 1 d cb (rowI' g)), some (.arr 1 L.length cO (rowsC 3 N cp)), some (poolL true N L)]
theorem unL {p : Prop} (h : p) : under none p := h
theorem sel_upd {σ : Nat → Nat} {g : Nat → Int} {d k : Nat} {n : Int} (hk : k < 0 + d + 1) {a b : Nat → List SV} (hb : b 0 = [.int .i64 n]) :
    selL (decide (k < 0 + d)) (selL (decide (k < 0)) (a k) (rowI' g (0 + (k - 0)))) (b (0 + (k - (0 + d)))) = renL σ (rowI' (upd g d n) k) := by
  rw [decide_eq_false (Nat.not_lt_zero k), selL_false]
  rcases Nat.lt_or_ge k d with h | h
  · rw [decide_eq_true (show k < 0 + d by omega), selL_true]
    simp only [rowI', upd, if_neg (show ¬ k = d by omega), Nat.zero_add, Nat.sub_zero]
    rfl
  · obtain rfl : k = d := by omega
    rw [decide_eq_false (show ¬ k < 0 + k by omega), selL_false, show 0 + (k - (0 + k)) = 0 by omega, hb]
    simp only [rowI', upd, if_true]
    rfl
theorem one1L {get : Nat → List SV} (h : allOne (get 0) = true) : allOneN get 0 1 := fun k hk => by
  have h0 : k = 0 := by omega
  subst h0
  exact h
theorem sel_push {σ : Nat → Nat} {n k : Nat} (hk : k < n + 1) {a a' b : Nat → List SV} {c : List SV} (h1 : ∀ k, k < n → a k = renL σ (a' k)) (h2 : b 0 = renL σ c) : selL (decide (k < n)) (a k) (b (0 + (k - n))) = renL σ (if k < n then a' k else c) := by
  rcases Nat.lt_succ_iff_lt_or_eq.1 hk with h | rfl
  · rw [decide_eq_true h, selL_true, if_pos h, h1 k h]
  · rw [decide_eq_false (Nat.lt_irrefl _), selL_false, if_neg (Nat.lt_irrefl _), Nat.sub_self, h2]
theorem push110 {N : Nat} {lo hi : Nat → Int} {cb : Nat} {g : Nat → Int} {M cO c : Nat} {cp : Nat → Nat} {L : List (Nat → Int)} (hM : M = L.length) {go : Nat → List SV} (h1 : ∀ k, k < M → go k = rowsC 3 N cp k) (h2 : go M = [.slice 1 1 0 N cb]) {n : Nat} {T : Tm} {D : List SV} :
    Ent n ⟨T, [some (.roa 2 N (row2 lo hi)), some (.arr 1 N cb (rowI' g)), some .dead, some (poolL true N L), some (.arr 1 (M + 1) c go)], D⟩
      ⟨T, [some (.roa 2 N (row2 lo hi)), some .dead, some .dead, some .dead, some (.arr 1 (M + 1) c (rowsC 5 N fun k => if k < M then cp k else cb)), some (poolL true N (L ++ [g]))], D⟩ := by
  subst hM
  have e : (L ++ [g]).length = L.length + 1 := by simp
  have old : ∀ k, k < L.length → (L ++ [g]).getD k (fun _ => 0) = L.getD k fun _ => 0 := fun k hk => by
    rw [List.getD_eq_getElem?_getD, List.getElem?_append_left hk, List.getD_eq_getElem?_getD]
  have new : (L ++ [g]).getD L.length (fun _ => 0) = g := by
    rw [List.getD_eq_getElem?_getD, List.getElem?_append_right (Nat.le_refl _)]
    simp
  have := entPush (n := n) (T := T) (D := D) (H := [some (.roa 2 N (row2 lo hi)), some (.arr 1 N cb (rowI' g)), some .dead, some (poolL true N L), some (.arr 1 (L.length + 1) c go)]) (i := 1) (j := 3) (o := 4) (np := L.length) (m := N) (cap := cb)
    (go' := rowsC 5 N fun k => if k < L.length then cp k else cb) (len' := fun _ => N) (get' := fun k => (L ++ [g]).getD k fun _ => 0) rfl rfl rfl (by decide)
    (fun q _ => by rw [new]; rfl) (fun k _ => rfl) (Nat.le_refl _) (fun k hk q _ => by rw [old k hk])
    (fun η hp k hk => by
      rcases Nat.lt_succ_iff_lt_or_eq.1 hk with h | rfl
      · rw [h1 k h]
        simp only [rowsC, if_pos h, denL]
        rw [hp.old h]
        rfl
      · rw [h2]
        simp only [rowsC, if_neg (Nat.lt_irrefl _), denL]
        rw [hp.new]
        rfl)
  have e2 : poolL true N (L ++ [g]) = .pool true (L.length + 1) (fun _ => N) fun k => (L ++ [g]).getD k fun _ => 0 := by rw [poolL, e]
  rw [e2]
  exact this
theorem t110a {N cN : Nat} {bl : Bool} {lo hi : Nat → Int} (hN : N ≤ 4) (hlh : ∀ i, i < N → 0 ≤ lo i ∧ lo i ≤ hi i ∧ hi i ≤ 60) : ∀ (r d : Nat), d + r = N → 1 ≤ d → ∀ (cb : Nat) (g : Nat → Int) (L : List (Nat → Int)) (cO : Nat) (cp : Nat → Nat),
    (d ≤ cb ∧ cb ≤ 9223372036854775807) → (L.length ≤ cO ∧ cO ≤ 9223372036854775807) → (L ++ lsts lo hi N r g).length ≤ 100000 →
    CallP Tryd.prog 110 [.osl bl 0 2 N cN, .slice 1 1 0 d cb, .slice 2 1 0 L.length cO] (H110 N lo hi d cb g cO cp L) (K110 N lo hi (L ++ lsts lo hi N r g)) := by
  intro r
  induction r with
  | zero =>
    intro d hd hd1 cb g L cO cp hcb hcO hlen
    obtain rfl : d = N := by omega
    have hlen' : L.length + 1 ≤ 100000 := by simpa [lsts] using hlen
    refine callK (E := E) E_ok Tryd.func110 rfl ?_
    refine And.intro ?_ (And.intro (fun hc => ?_) (fun hc => ?_))
    · (repeat' (first | exact trivial | exact fun _ => rfl | exact rfl | refine And.intro ?_ ?_))
    · (repeat' (first | exact trivial | exact fun _ => rfl | exact rfl | refine And.intro ?_ ?_))
      all_goals first | exact Nat.le_refl _ | exact hcO.2 | exact one1L rfl | (show _ * 24 ≤ 140737488355328; omega) | skip
      intro c hc1 hc2
      (repeat' (first | exact trivial | exact fun _ => rfl | exact rfl | refine And.intro ?_ ?_))
      refine ⟨.ret (.slice 4 1 0 (L.length + 1) c), [some (.roa 2 d (row2 lo hi)), some .dead, some .dead, some .dead, some (.arr 1 (L.length + 1) c (rowsC 5 d fun k => if k < L.length then cp k else cb)), some (poolL true d (L ++ [g]))], ⟨c, fun k => if k < L.length then cp k else cb, ?_, ?_, ?_⟩, ?_⟩
      · rw [lsts, List.length_append, List.length_singleton]
        exact ⟨hc1, hc2⟩
      · rw [lsts, List.length_append, List.length_singleton]
      · rw [lsts, List.length_append, List.length_singleton]
      refine Ent.trans ?_ (push110 (M := L.length) (cO := cO) (go := fun k => if k < L.length then rowsC 3 d cp k else [.slice 1 1 0 d cb]) rfl (fun k hk => if_pos hk) (if_neg (Nat.lt_irrefl _)))
      refine ent_tau [0, 1, 2, 3, 5] ⟨?_, ?_, rfl⟩
      · (repeat' (first | exact trivial | exact rfl | exact fun _ _ => rfl | exact fun _ _ _ _ => rfl | exact Or.inl rfl | exact Or.inr rfl | refine And.intro ?_ ?_))
        exact fun k hk => sel_push hk (fun _ _ => rfl) rfl
      · (repeat' (first | exact trivial | exact rfl | exact congrArg (SV.int .i64) (Int.natCast_succ _).symm | refine And.intro ?_ ?_))
    · exact absurd rfl (of_decide_eq_false hc)
  | succ r ih =>
    intro d hd hd1 cb g L cO cp hcb hcO hlen
    have hdN : d < N := by omega
    have hl := hlh d hdN
    have e2 : 0 + (d : Int).toNat = d := by omega
    obtain ⟨cnt, ecnt⟩ : ∃ q, (hi d - lo d + 1).toNat = q := ⟨_, rfl⟩
    have eL : lsts lo hi N (r + 1) g = catG (fun v => lsts lo hi N r (upd g d v)) (lo d) cnt := by
      have : N - (r + 1) = d := by omega
      rw [lsts, this, ecnt]
    rw [eL] at hlen ⊢
    refine callK (E := E) E_ok Tryd.func110 rfl ?_
    refine And.intro ?_ (And.intro (fun hc => ?_) (fun hc => ?_))
    · (repeat' (first | exact trivial | exact fun _ => rfl | exact rfl | refine And.intro ?_ ?_))
    · exact absurd (of_decide_eq_true hc) (by omega)
    refine And.intro ?_ ?_
    · (repeat' (first | exact trivial | exact fun _ => rfl | exact rfl | refine And.intro ?_ ?_))
      all_goals first | omega | exact unL (by omega)
    rw [e2]
    refine loopP E_ok [0, 1, 7] (fun q : Nat × List (Nat → Int) × Nat × (Nat → Nat) => [(2, match q.1 with | 0 => .slice 2 1 0 L.length cO | _ + 1 => .slice 5 1 0 q.2.1.length q.2.2.1), (8, .int .i64 (lo d + (q.1 : Nat)))])
      (fun q _ => match q.1 with
        | 0 => [some (.roa 2 N (row2 lo hi)), some (.arr 1 d cb (rowI' g)), some (.arr 1 L.length cO (rowsC 3 N cp)), some (poolL true N L), some (.cells [.int .i64 (lo d), .int .i64 (hi d)])]
        | _ + 1 => [some (.roa 2 N (row2 lo hi)), some (.arr 1 d cb (rowI' g)), some .dead, some .dead, some (.cells [.int .i64 (lo d), .int .i64 (hi d)]), some (.arr 1 q.2.1.length q.2.2.1 (rowsC 6 N q.2.2.2)), some (poolL true N q.2.1)])
      (fun q => q.1 ≤ cnt ∧ q.2.1 = L ++ catG (fun v => lsts lo hi N r (upd g d v)) (lo d) q.1 ∧ q.2.1.length ≤ q.2.2.1 ∧ q.2.2.1 ≤ 9223372036854775807) (fun q => cnt - q.1)
      (0, L, cO, cp) ⟨Nat.zero_le _, by simp [catG], hcO.1, hcO.2⟩ ?_ ?_
    · refine ent_tau [0, 1, 2, 3, 4] ⟨?_, ?_, rfl⟩
      · (repeat' (first | exact trivial | exact rfl | exact fun _ _ => rfl | exact fun _ _ _ _ => rfl | exact Or.inl rfl | exact Or.inr rfl | refine And.intro ?_ ?_))
      · (repeat' (first | exact trivial | exact rfl | exact congrArg (SV.int .i64) (Int.natCast_succ _).symm | refine And.intro ?_ ?_))
        exact congrArg (SV.int .i64) (show lo d = lo d + ((0 : Nat) : Int) by omega)
    rintro ⟨c, M, cO', cp'⟩ ⟨hc1, hM, hb1, hb2⟩
    simp only at hc1 hM hb1 hb2
    have hf : (L ++ catG (fun v => lsts lo hi N r (upd g d v)) (lo d) c).length ≤ 100000 := by
      have := catG_le (fun v => lsts lo hi N r (upd g d v)) (lo d) hc1
      simp only [List.length_append] at hlen ⊢
      omega
    cases c with
    | zero =>
      refine And.intro ?_ (And.intro (fun hcc => ?_) (fun hcc => ?_))
      · (repeat' (first | exact trivial | exact fun _ => rfl | exact rfl | refine And.intro ?_ ?_))
        all_goals omega
      · have hcc' : 0 < cnt := by
          have := of_decide_eq_true hcc
          omega
        (repeat' (first | exact trivial | exact fun _ => rfl | exact rfl | refine And.intro ?_ ?_))
        all_goals first | exact Nat.le_refl _ | omega | exact (fun k _ => rfl) | (show _ * 8 ≤ 140737488355328; omega) | skip
        intro c1 hc1a hc1b
        (repeat' (first | exact trivial | exact fun _ => rfl | exact rfl | refine And.intro ?_ ?_))
        all_goals first | exact Nat.le_refl _ | omega | exact one1L rfl | (show (0 + d + 1) * 8 ≤ 140737488355328; omega) | skip
        intro c2 hc2a hc2b
        (repeat' (first | exact trivial | exact fun _ => rfl | exact rfl | refine And.intro ?_ ?_))
        refine CallP.frameH (ih (0 + d + 1) (by omega) (by omega) c2 (upd g d (lo d + (0 : Nat))) L cO cp ⟨hc2a, hc2b⟩ hcO (by
          have := catG_le (fun v => lsts lo hi N r (upd g d v)) (lo d) (show 1 ≤ cnt from hcc')
          simp only [List.length_append, catG, List.length_nil, Nat.zero_add] at hlen this ⊢
          omega)) [0, 8, 2, 3] ?_ rfl ?_
        · (repeat' (first | exact trivial | exact rfl | exact fun _ _ => rfl | exact fun _ _ _ _ => rfl | exact Or.inl rfl | exact Or.inr rfl | refine And.intro ?_ ?_))
          exact fun k hk => sel_upd hk rfl
        rintro ce h' ⟨cO3, cp3, hb3, rfl, rfl⟩
        refine ⟨rfl, ?_⟩
        refine And.intro ?_ ?_
        · (repeat' (first | exact trivial | exact fun _ => rfl | exact rfl | refine And.intro ?_ ?_))
          all_goals first | (show _ ≤ lo d + ((0 : Nat) : Int) + 1; omega) | (show lo d + ((0 : Nat) : Int) + 1 ≤ _; omega)
        refine ⟨(0 + 1, L ++ lsts lo hi N r (upd g d (lo d + (0 : Nat))), cO3, cp3), ⟨hcc', ?_, hb3.1, hb3.2⟩, ?_, ?_⟩
        · simp [catG]
        · show cnt - (0 + 1) < cnt - 0
          omega
        refine ent_tau [0, 1, 2, 3, 4, 9, 10] ⟨?_, ?_, rfl⟩
        · (repeat' (first | exact trivial | exact rfl | exact fun _ _ => rfl | exact fun _ _ _ _ => rfl | exact Or.inl rfl | exact Or.inr rfl | refine And.intro ?_ ?_))
        · (repeat' (first | exact trivial | exact rfl | exact congrArg (SV.int .i64) (Int.natCast_succ _).symm | refine And.intro ?_ ?_))
          exact congrArg (SV.int .i64) (show lo d + ((0 : Nat) : Int) + 1 = lo d + ((0 + 1 : Nat) : Int) by omega)
      · have := of_decide_eq_false hcc
        omega
    | succ c =>
      refine And.intro ?_ (And.intro (fun hcc => ?_) (fun hcc => ?_))
      · (repeat' (first | exact trivial | exact fun _ => rfl | exact rfl | refine And.intro ?_ ?_))
        all_goals omega
      · have hcc' : c + 1 < cnt := by
          have := of_decide_eq_true hcc
          omega
        have hM2 : M ++ lsts lo hi N r (upd g d (lo d + (c + 1 : Nat))) = L ++ catG (fun v => lsts lo hi N r (upd g d v)) (lo d) (c + 1 + 1) := by
          rw [hM, List.append_assoc]
          rfl
        (repeat' (first | exact trivial | exact fun _ => rfl | exact rfl | refine And.intro ?_ ?_))
        all_goals first | exact Nat.le_refl _ | omega | exact (fun k _ => rfl) | (show _ * 8 ≤ 140737488355328; omega) | skip
        intro c1 hc1a hc1b
        (repeat' (first | exact trivial | exact fun _ => rfl | exact rfl | refine And.intro ?_ ?_))
        all_goals first | exact Nat.le_refl _ | omega | exact one1L rfl | (show (0 + d + 1) * 8 ≤ 140737488355328; omega) | skip
        intro c2 hc2a hc2b
        (repeat' (first | exact trivial | exact fun _ => rfl | exact rfl | refine And.intro ?_ ?_))
        refine CallP.frameH (ih (0 + d + 1) (by omega) (by omega) c2 (upd g d (lo d + (c + 1 : Nat))) M cO' cp' ⟨hc2a, hc2b⟩ ⟨hb1, hb2⟩ (by
          rw [hM2]
          have := catG_le (fun v => lsts lo hi N r (upd g d v)) (lo d) (show c + 1 + 1 ≤ cnt from hcc')
          simp only [List.length_append] at hlen ⊢
          omega)) [0, 10, 5, 6] ?_ rfl ?_
        · (repeat' (first | exact trivial | exact rfl | exact fun _ _ => rfl | exact fun _ _ _ _ => rfl | exact Or.inl rfl | exact Or.inr rfl | refine And.intro ?_ ?_))
          exact fun k hk => sel_upd hk rfl
        rintro ce h' ⟨cO3, cp3, hb3, rfl, rfl⟩
        refine ⟨rfl, ?_⟩
        refine And.intro ?_ ?_
        · (repeat' (first | exact trivial | exact fun _ => rfl | exact rfl | refine And.intro ?_ ?_))
          all_goals first | (show _ ≤ lo d + ((c + 1 : Nat) : Int) + 1; omega) | (show lo d + ((c + 1 : Nat) : Int) + 1 ≤ _; omega)
        refine ⟨(c + 1 + 1, M ++ lsts lo hi N r (upd g d (lo d + (c + 1 : Nat))), cO3, cp3), ⟨hcc', hM2, hb3.1, hb3.2⟩, ?_, ?_⟩
        · show cnt - (c + 1 + 1) < cnt - (c + 1)
          omega
        refine ent_tau [0, 1, 2, 3, 4, 11, 12] ⟨?_, ?_, rfl⟩
        · (repeat' (first | exact trivial | exact rfl | exact fun _ _ => rfl | exact fun _ _ _ _ => rfl | exact Or.inl rfl | exact Or.inr rfl | refine And.intro ?_ ?_))
        · (repeat' (first | exact trivial | exact rfl | exact congrArg (SV.int .i64) (Int.natCast_succ _).symm | refine And.intro ?_ ?_))
          exact congrArg (SV.int .i64) (show lo d + ((c + 1 : Nat) : Int) + 1 = lo d + ((c + 1 + 1 : Nat) : Int) by omega)
      · have hcn : c + 1 = cnt := by
          have := of_decide_eq_false hcc
          omega
        subst hcn
        rw [← hM]
        (repeat' (first | exact trivial | exact fun _ => rfl | exact rfl | refine And.intro ?_ ?_))
        refine ⟨.ret (.slice 4 1 0 M.length cO'), [some (.roa 2 N (row2 lo hi)), some .dead, some .dead, some .dead, some (.arr 1 M.length cO' (rowsC 5 N cp')), some (poolL true N M)], ⟨cO', cp', ⟨hb1, hb2⟩, rfl, rfl⟩, ?_⟩
        refine ent_tau [0, 1, 2, 3, 5, 6] ⟨?_, ?_, rfl⟩
        · (repeat' (first | exact trivial | exact rfl | exact fun _ _ => rfl | exact fun _ _ _ _ => rfl | exact Or.inl rfl | exact Or.inr rfl | refine And.intro ?_ ?_))
        · (repeat' (first | exact trivial | exact rfl | exact congrArg (SV.int .i64) (Int.natCast_succ _).symm | refine And.intro ?_ ?_))
end Go.Proofs.YtipbempkngfdbaaDoor
/-
  Contract: dipworksref01.lists, where there is no list yet.
-/
namespace Go.Proofs.YtipbempkngfdbaaDoor
open Go Go.Sy
set_option linter.unusedSimpArgs false
set_option maxRecDepth 100000
set_option maxHeartbeats 4000000
attribute [local irreducible] CallP CodeP Ent YieldP

def K110b (N : Nat) (lo hi : Nat → Int) (L : List (Nat → Int)) : CE → SHeap → Prop := fun ce h' =>
  ∃ (cO : Nat) (cp : Nat → Nat), (L.length ≤ cO ∧ cO ≤ 9223372036854775807) ∧ ce = .ret (.slice 2 1 0 L.length cO) ∧ h' = [some (.roa 2 N (row2 lo hi)), some .dead, some (.arr 1 L.length cO (rowsC 3 N cp)), some (poolL true N L)]
def K110c (N : Nat) (lo hi : Nat → Int) (L : List (Nat → Int)) : CE → SHeap → Prop := fun ce h' =>
  ∃ (cO : Nat) (cp : Nat → Nat), (L.length ≤ cO ∧ cO ≤ 9223372036854775807) ∧ ce = .ret (.slice 1 1 0 L.length cO) ∧ h' = [some (.roa 2 N (row2 lo hi)), some (.arr 1 L.length cO (rowsC 2 N cp)), some (poolL true N L)]
theorem push110b {N : Nat} {lo hi : Nat → Int} {cb : Nat} {g : Nat → Int} {c : Nat} {go : Nat → List SV} (h2 : go 0 = [.slice 1 1 0 N cb]) :
    Ent 2 ⟨[some (none, .slice 2 1 0 1 c)], [some (.roa 2 N (row2 lo hi)), some (.arr 1 N cb (rowI' g)), some (.arr 1 1 c go)], []⟩
      ⟨[some (none, .slice 2 1 0 1 c)], [some (.roa 2 N (row2 lo hi)), some .dead, some (.arr 1 1 c (rowsC 3 N fun _ => cb)), some (poolL true N [g])], []⟩ := by
  refine Ent.trans (entPool (fun _ => N) fun _ _ => 0) ?_
  have := entPush (n := 2) (T := [some (none, .slice 2 1 0 1 c)]) (D := []) (H := [some (.roa 2 N (row2 lo hi)), some (.arr 1 N cb (rowI' g)), some (.arr 1 1 c go), some (.pool true 0 (fun _ => N) fun _ _ => 0)]) (i := 1) (j := 3) (o := 2) (np := 0) (m := N) (cap := cb)
    (go' := rowsC 4 N fun _ => cb) (len' := fun _ => N) (get' := fun k => [g].getD k fun _ => 0) rfl rfl rfl (by decide)
    (fun q _ => rfl) (fun k _ => rfl) (Nat.le_refl _) (fun k hk q _ => absurd hk (Nat.not_lt_zero k))
    (fun η hp k hk => by
      obtain rfl : k = 0 := by omega
      rw [h2]
      simp only [rowsC, denL]
      rw [hp.new]
      rfl)
  refine Ent.trans this ?_
  exact ent_tau [0, 1, 2, 4] ⟨by (repeat' (first | exact trivial | exact rfl | exact fun _ _ => rfl | exact fun _ _ _ _ => rfl | exact Or.inl rfl | exact Or.inr rfl | refine And.intro ?_ ?_)), by (repeat' (first | exact trivial | exact rfl | exact congrArg (SV.int .i64) (Int.natCast_succ _).symm | refine And.intro ?_ ?_)), rfl⟩
theorem t110b {N cN : Nat} {bl : Bool} {lo hi : Nat → Int} (hN : N ≤ 4) (hlh : ∀ i, i < N → 0 ≤ lo i ∧ lo i ≤ hi i ∧ hi i ≤ 60) : ∀ (r d : Nat), d + r = N → 1 ≤ d → ∀ (cb : Nat) (g : Nat → Int),
    (d ≤ cb ∧ cb ≤ 9223372036854775807) → (lsts lo hi N r g).length ≤ 100000 →
    CallP Tryd.prog 110 [.osl bl 0 2 N cN, .slice 1 1 0 d cb, .snil] [some (.roa 2 N (row2 lo hi)), some (.arr 1 d cb (rowI' g))] (K110b N lo hi (lsts lo hi N r g)) := by
  intro r
  induction r with
  | zero =>
    intro d hd hd1 cb g hcb hlen
    obtain rfl : d = N := by omega
    refine callK (E := E) E_ok Tryd.func110 rfl ?_
    refine And.intro ?_ (And.intro (fun hc => ?_) (fun hc => ?_))
    · (repeat' (first | exact trivial | exact fun _ => rfl | exact rfl | refine And.intro ?_ ?_))
    · (repeat' (first | exact trivial | exact fun _ => rfl | exact rfl | refine And.intro ?_ ?_))
      all_goals first | exact Nat.le_refl _ | decide | exact one1L rfl | (show 1 * 24 ≤ 140737488355328; omega) | skip
      intro c hc1 hc2
      (repeat' (first | exact trivial | exact fun _ => rfl | exact rfl | refine And.intro ?_ ?_))
      refine ⟨.ret (.slice 2 1 0 1 c), [some (.roa 2 d (row2 lo hi)), some .dead, some (.arr 1 1 c (rowsC 3 d fun _ => cb)), some (poolL true d [g])], ⟨c, fun _ => cb, ⟨hc1, hc2⟩, rfl, rfl⟩, ?_⟩
      refine Ent.trans ?_ (push110b (go := fun _ => [.slice 1 1 0 d cb]) rfl)
      refine ent_tau [0, 1, 3] ⟨?_, ?_, rfl⟩
      · (repeat' (first | exact trivial | exact rfl | exact fun _ _ => rfl | exact fun _ _ _ _ => rfl | exact Or.inl rfl | exact Or.inr rfl | refine And.intro ?_ ?_))
        exact fun k hk => by
          obtain rfl : k = 0 := Nat.lt_one_iff.1 hk
          rfl
      · (repeat' (first | exact trivial | exact rfl | exact congrArg (SV.int .i64) (Int.natCast_succ _).symm | refine And.intro ?_ ?_))
    · exact absurd rfl (of_decide_eq_false hc)
  | succ r ih =>
    intro d hd hd1 cb g hcb hlen
    have hdN : d < N := by omega
    have hl := hlh d hdN
    have e2 : 0 + (d : Int).toNat = d := by omega
    obtain ⟨cnt, ecnt⟩ : ∃ q, (hi d - lo d + 1).toNat = q := ⟨_, rfl⟩
    have eL : lsts lo hi N (r + 1) g = catG (fun v => lsts lo hi N r (upd g d v)) (lo d) cnt := by
      have : N - (r + 1) = d := by omega
      rw [lsts, this, ecnt]
    rw [eL] at hlen ⊢
    refine callK (E := E) E_ok Tryd.func110 rfl ?_
    refine And.intro ?_ (And.intro (fun hc => ?_) (fun hc => ?_))
    · (repeat' (first | exact trivial | exact fun _ => rfl | exact rfl | refine And.intro ?_ ?_))
    · exact absurd (of_decide_eq_true hc) (by omega)
    refine And.intro ?_ ?_
    · (repeat' (first | exact trivial | exact fun _ => rfl | exact rfl | refine And.intro ?_ ?_))
      all_goals first | omega | exact unL (by omega)
    rw [e2]
    refine loopP E_ok [0, 1, 7] (fun q : Nat × List (Nat → Int) × Nat × (Nat → Nat) => [(2, match q.1 with | 0 => .snil | _ + 1 => .slice 3 1 0 q.2.1.length q.2.2.1), (8, .int .i64 (lo d + (q.1 : Nat)))])
      (fun q _ => match q.1 with
        | 0 => [some (.roa 2 N (row2 lo hi)), some (.arr 1 d cb (rowI' g)), some (.cells [.int .i64 (lo d), .int .i64 (hi d)])]
        | _ + 1 => [some (.roa 2 N (row2 lo hi)), some (.arr 1 d cb (rowI' g)), some (.cells [.int .i64 (lo d), .int .i64 (hi d)]), some (.arr 1 q.2.1.length q.2.2.1 (rowsC 4 N q.2.2.2)), some (poolL true N q.2.1)])
      (fun q => q.1 ≤ cnt ∧ q.2.1 = catG (fun v => lsts lo hi N r (upd g d v)) (lo d) q.1 ∧ (0 < q.1 → q.2.1.length ≤ q.2.2.1 ∧ q.2.2.1 ≤ 9223372036854775807)) (fun q => cnt - q.1)
      (0, [], 0, fun _ => 0) ⟨Nat.zero_le _, rfl, fun h => absurd h (Nat.lt_irrefl 0)⟩ ?_ ?_
    · refine ent_tau [0, 1, 2] ⟨?_, ?_, rfl⟩
      · (repeat' (first | exact trivial | exact rfl | exact fun _ _ => rfl | exact fun _ _ _ _ => rfl | exact Or.inl rfl | exact Or.inr rfl | refine And.intro ?_ ?_))
      · (repeat' (first | exact trivial | exact rfl | exact congrArg (SV.int .i64) (Int.natCast_succ _).symm | refine And.intro ?_ ?_))
        exact congrArg (SV.int .i64) (show lo d = lo d + ((0 : Nat) : Int) by omega)
    rintro ⟨c, M, cO', cp'⟩ ⟨hc1, hM, hb⟩
    simp only at hc1 hM hb
    have hf : (catG (fun v => lsts lo hi N r (upd g d v)) (lo d) c).length ≤ 100000 := by
      have := catG_le (fun v => lsts lo hi N r (upd g d v)) (lo d) hc1
      omega
    cases c with
    | zero =>
      refine And.intro ?_ (And.intro (fun hcc => ?_) (fun hcc => ?_))
      · (repeat' (first | exact trivial | exact fun _ => rfl | exact rfl | refine And.intro ?_ ?_))
        all_goals first | omega | (show _ ≤ lo d + ((0 : Nat) : Int); omega)
      · have hcc' : 0 < cnt := by
          have := of_decide_eq_true hcc
          omega
        (repeat' (first | exact trivial | exact fun _ => rfl | exact rfl | refine And.intro ?_ ?_))
        all_goals first | exact Nat.le_refl _ | omega | exact (fun k _ => rfl) | (show _ * 8 ≤ 140737488355328; omega) | skip
        intro c1 hc1a hc1b
        (repeat' (first | exact trivial | exact fun _ => rfl | exact rfl | refine And.intro ?_ ?_))
        all_goals first | exact Nat.le_refl _ | omega | exact one1L rfl | (show (0 + d + 1) * 8 ≤ 140737488355328; omega) | skip
        intro c2 hc2a hc2b
        (repeat' (first | exact trivial | exact fun _ => rfl | exact rfl | refine And.intro ?_ ?_))
        refine CallP.frameH (ih (0 + d + 1) (by omega) (by omega) c2 (upd g d (lo d + (0 : Nat))) ⟨hc2a, hc2b⟩ (by
          have := catG_le (fun v => lsts lo hi N r (upd g d v)) (lo d) (show 1 ≤ cnt from hcc')
          simp only [catG, List.nil_append] at hlen this ⊢
          omega)) [0, 6] ?_ rfl ?_
        · (repeat' (first | exact trivial | exact rfl | exact fun _ _ => rfl | exact fun _ _ _ _ => rfl | exact Or.inl rfl | exact Or.inr rfl | refine And.intro ?_ ?_))
          exact fun k hk => sel_upd hk rfl
        rintro ce h' ⟨cO3, cp3, hb3, rfl, rfl⟩
        refine ⟨rfl, ?_⟩
        refine And.intro ?_ ?_
        · (repeat' (first | exact trivial | exact fun _ => rfl | exact rfl | refine And.intro ?_ ?_))
          all_goals first | (show _ ≤ lo d + ((0 : Nat) : Int) + 1; omega) | (show lo d + ((0 : Nat) : Int) + 1 ≤ _; omega)
        refine ⟨(0 + 1, lsts lo hi N r (upd g d (lo d + (0 : Nat))), cO3, cp3), ⟨hcc', rfl, fun _ => hb3⟩, ?_, ?_⟩
        · show cnt - (0 + 1) < cnt - 0
          omega
        refine ent_tau [0, 1, 2, 7, 8] ⟨?_, ?_, rfl⟩
        · (repeat' (first | exact trivial | exact rfl | exact fun _ _ => rfl | exact fun _ _ _ _ => rfl | exact Or.inl rfl | exact Or.inr rfl | refine And.intro ?_ ?_))
        · (repeat' (first | exact trivial | exact rfl | exact congrArg (SV.int .i64) (Int.natCast_succ _).symm | refine And.intro ?_ ?_))
          exact congrArg (SV.int .i64) (show lo d + ((0 : Nat) : Int) + 1 = lo d + ((0 + 1 : Nat) : Int) by omega)
      · have := of_decide_eq_false hcc
        omega
    | succ c =>
      obtain ⟨hb1, hb2⟩ := hb (Nat.succ_pos c)
      refine And.intro ?_ (And.intro (fun hcc => ?_) (fun hcc => ?_))
      · (repeat' (first | exact trivial | exact fun _ => rfl | exact rfl | refine And.intro ?_ ?_))
        all_goals omega
      · have hcc' : c + 1 < cnt := by
          have := of_decide_eq_true hcc
          omega
        have hM2 : M ++ lsts lo hi N r (upd g d (lo d + (c + 1 : Nat))) = catG (fun v => lsts lo hi N r (upd g d v)) (lo d) (c + 1 + 1) := by
          rw [hM]
          rfl
        (repeat' (first | exact trivial | exact fun _ => rfl | exact rfl | refine And.intro ?_ ?_))
        all_goals first | exact Nat.le_refl _ | omega | exact (fun k _ => rfl) | (show _ * 8 ≤ 140737488355328; omega) | skip
        intro c1 hc1a hc1b
        (repeat' (first | exact trivial | exact fun _ => rfl | exact rfl | refine And.intro ?_ ?_))
        all_goals first | exact Nat.le_refl _ | omega | exact one1L rfl | (show (0 + d + 1) * 8 ≤ 140737488355328; omega) | skip
        intro c2 hc2a hc2b
        (repeat' (first | exact trivial | exact fun _ => rfl | exact rfl | refine And.intro ?_ ?_))
        refine CallP.frameH (t110a hN hlh r (0 + d + 1) (by omega) (by omega) c2 (upd g d (lo d + (c + 1 : Nat))) M cO' cp' ⟨hc2a, hc2b⟩ ⟨hb1, hb2⟩ (by
          rw [hM2]
          have := catG_le (fun v => lsts lo hi N r (upd g d v)) (lo d) (show c + 1 + 1 ≤ cnt from hcc')
          omega)) [0, 8, 3, 4] ?_ rfl ?_
        · (repeat' (first | exact trivial | exact rfl | exact fun _ _ => rfl | exact fun _ _ _ _ => rfl | exact Or.inl rfl | exact Or.inr rfl | refine And.intro ?_ ?_))
          exact fun k hk => sel_upd hk rfl
        rintro ce h' ⟨cO3, cp3, hb3, rfl, rfl⟩
        refine ⟨rfl, ?_⟩
        refine And.intro ?_ ?_
        · (repeat' (first | exact trivial | exact fun _ => rfl | exact rfl | refine And.intro ?_ ?_))
          all_goals first | (show _ ≤ lo d + ((c + 1 : Nat) : Int) + 1; omega) | (show lo d + ((c + 1 : Nat) : Int) + 1 ≤ _; omega)
        refine ⟨(c + 1 + 1, M ++ lsts lo hi N r (upd g d (lo d + (c + 1 : Nat))), cO3, cp3), ⟨hcc', hM2, fun _ => hb3⟩, ?_, ?_⟩
        · show cnt - (c + 1 + 1) < cnt - (c + 1)
          omega
        refine ent_tau [0, 1, 2, 9, 10] ⟨?_, ?_, rfl⟩
        · (repeat' (first | exact trivial | exact rfl | exact fun _ _ => rfl | exact fun _ _ _ _ => rfl | exact Or.inl rfl | exact Or.inr rfl | refine And.intro ?_ ?_))
        · (repeat' (first | exact trivial | exact rfl | exact congrArg (SV.int .i64) (Int.natCast_succ _).symm | refine And.intro ?_ ?_))
          exact congrArg (SV.int .i64) (show lo d + ((c + 1 : Nat) : Int) + 1 = lo d + ((c + 1 + 1 : Nat) : Int) by omega)
      · have hcn : c + 1 = cnt := by
          have := of_decide_eq_false hcc
          omega
        subst hcn
        rw [← hM]
        (repeat' (first | exact trivial | exact fun _ => rfl | exact rfl | refine And.intro ?_ ?_))
        refine ⟨.ret (.slice 2 1 0 M.length cO'), [some (.roa 2 N (row2 lo hi)), some .dead, some (.arr 1 M.length cO' (rowsC 3 N cp')), some (poolL true N M)], ⟨cO', cp', ⟨hb1, hb2⟩, rfl, rfl⟩, ?_⟩
        refine ent_tau [0, 1, 3, 4] ⟨?_, ?_, rfl⟩
        · (repeat' (first | exact trivial | exact rfl | exact fun _ _ => rfl | exact fun _ _ _ _ => rfl | exact Or.inl rfl | exact Or.inr rfl | refine And.intro ?_ ?_))
        · (repeat' (first | exact trivial | exact rfl | exact congrArg (SV.int .i64) (Int.natCast_succ _).symm | refine And.intro ?_ ?_))
theorem sel_upd0 {σ : Nat → Nat} {g : Nat → Int} {k : Nat} {n : Int} (hk : k < 0 + 1) {a b : Nat → List SV} (hb : b 0 = [.int .i64 n]) :
    selL (decide (k < 0)) (a k) (b (0 + (k - 0))) = renL σ (rowI' (upd g 0 n) k) := by
  obtain rfl : k = 0 := by omega
  rw [decide_eq_false (Nat.lt_irrefl 0), selL_false, show 0 + (0 - 0) = 0 from rfl, hb]
  simp only [rowI', upd, if_true]
  rfl
theorem t110c {N cN : Nat} {bl : Bool} {lo hi : Nat → Int} (hN : N ≤ 4) (hlh : ∀ i, i < N → 0 ≤ lo i ∧ lo i ≤ hi i ∧ hi i ≤ 60) (hN1 : 1 ≤ N) (g : Nat → Int) (hlen : (lsts lo hi N N g).length ≤ 100000) :
    CallP Tryd.prog 110 [.osl bl 0 2 N cN, .snil, .snil] [some (.roa 2 N (row2 lo hi))] (K110c N lo hi (lsts lo hi N N g)) := by
  obtain ⟨r, hr⟩ : ∃ r, N = r + 1 := ⟨N - 1, by omega⟩
  have hl := hlh 0 hN1
  obtain ⟨cnt, ecnt⟩ : ∃ q, (hi 0 - lo 0 + 1).toNat = q := ⟨_, rfl⟩
  have eL : lsts lo hi N N g = catG (fun v => lsts lo hi N r (upd g 0 v)) (lo 0) cnt := by
    have e : lsts lo hi N N g = lsts lo hi N (r + 1) g := by rw [← hr]
    have : N - (r + 1) = 0 := by omega
    rw [e, lsts, this, ecnt]
  rw [eL] at hlen ⊢
  refine callK (E := E) E_ok Tryd.func110 rfl ?_
  refine And.intro ?_ (And.intro (fun hc => ?_) (fun hc => ?_))
  · (repeat' (first | exact trivial | exact fun _ => rfl | exact rfl | refine And.intro ?_ ?_))
  · exact absurd (of_decide_eq_true hc) (by omega)
  · refine And.intro ?_ ?_
    · (repeat' (first | exact trivial | exact fun _ => rfl | exact rfl | refine And.intro ?_ ?_))
      all_goals first | omega | exact unL (by omega)
    rw [show 0 + (0 : Int).toNat = 0 from rfl]
    refine loopP E_ok [0, 1, 7] (fun q : Nat × List (Nat → Int) × Nat × (Nat → Nat) => [(2, match q.1 with | 0 => .snil | _ + 1 => .slice 2 1 0 q.2.1.length q.2.2.1), (8, .int .i64 (lo 0 + (q.1 : Nat)))])
      (fun q _ => match q.1 with
        | 0 => [some (.roa 2 N (row2 lo hi)), some (.cells [.int .i64 (lo 0), .int .i64 (hi 0)])]
        | _ + 1 => [some (.roa 2 N (row2 lo hi)), some (.cells [.int .i64 (lo 0), .int .i64 (hi 0)]), some (.arr 1 q.2.1.length q.2.2.1 (rowsC 3 N q.2.2.2)), some (poolL true N q.2.1)])
      (fun q => q.1 ≤ cnt ∧ q.2.1 = catG (fun v => lsts lo hi N r (upd g 0 v)) (lo 0) q.1 ∧ (0 < q.1 → q.2.1.length ≤ q.2.2.1 ∧ q.2.2.1 ≤ 9223372036854775807)) (fun q => cnt - q.1)
      (0, [], 0, fun _ => 0) ⟨Nat.zero_le _, rfl, fun h => absurd h (Nat.lt_irrefl 0)⟩ ?_ ?_
    · refine ent_tau [0, 1] ⟨?_, ?_, rfl⟩
      · (repeat' (first | exact trivial | exact rfl | exact fun _ _ => rfl | exact fun _ _ _ _ => rfl | exact Or.inl rfl | exact Or.inr rfl | refine And.intro ?_ ?_))
      · (repeat' (first | exact trivial | exact rfl | exact congrArg (SV.int .i64) (Int.natCast_succ _).symm | refine And.intro ?_ ?_))
        exact congrArg (SV.int .i64) (show lo 0 = lo 0 + ((0 : Nat) : Int) by omega)
    rintro ⟨c, M, cO', cp'⟩ ⟨hc1, hM, hb⟩
    simp only at hc1 hM hb
    have hf : (catG (fun v => lsts lo hi N r (upd g 0 v)) (lo 0) c).length ≤ 100000 := by
      have := catG_le (fun v => lsts lo hi N r (upd g 0 v)) (lo 0) hc1
      omega
    cases c with
    | zero =>
      refine And.intro ?_ (And.intro (fun hcc => ?_) (fun hcc => ?_))
      · (repeat' (first | exact trivial | exact fun _ => rfl | exact rfl | refine And.intro ?_ ?_))
        all_goals first | omega | (show _ ≤ lo 0 + ((0 : Nat) : Int); omega)
      · have hcc' : 0 < cnt := by
          have := of_decide_eq_true hcc
          omega
        (repeat' (first | exact trivial | exact fun _ => rfl | exact rfl | refine And.intro ?_ ?_))
        all_goals first | exact Nat.le_refl _ | omega | exact (fun k _ => rfl) | skip
        intro c1 hc1a hc1b
        (repeat' (first | exact trivial | exact fun _ => rfl | exact rfl | refine And.intro ?_ ?_))
        all_goals first | exact Nat.le_refl _ | omega | exact one1L rfl | (show (0 + 1) * 8 ≤ 140737488355328; omega) | skip
        intro c2 hc2a hc2b
        (repeat' (first | exact trivial | exact fun _ => rfl | exact rfl | refine And.intro ?_ ?_))
        refine CallP.frameH (t110b hN hlh r (0 + 1) (by omega) (by omega) c2 (upd g 0 (lo 0 + (0 : Nat))) ⟨hc2a, hc2b⟩ (by
          have := catG_le (fun v => lsts lo hi N r (upd g 0 v)) (lo 0) (show 1 ≤ cnt from hcc')
          simp only [catG, List.nil_append] at hlen this ⊢
          omega)) [0, 5] ?_ rfl ?_
        · (repeat' (first | exact trivial | exact rfl | exact fun _ _ => rfl | exact fun _ _ _ _ => rfl | exact Or.inl rfl | exact Or.inr rfl | refine And.intro ?_ ?_))
          exact fun k hk => sel_upd0 hk rfl
        rintro ce h' ⟨cO3, cp3, hb3, rfl, rfl⟩
        refine ⟨rfl, ?_⟩
        refine And.intro ?_ ?_
        · (repeat' (first | exact trivial | exact fun _ => rfl | exact rfl | refine And.intro ?_ ?_))
          all_goals first | (show _ ≤ lo 0 + ((0 : Nat) : Int) + 1; omega) | (show lo 0 + ((0 : Nat) : Int) + 1 ≤ _; omega)
        refine ⟨(0 + 1, lsts lo hi N r (upd g 0 (lo 0 + (0 : Nat))), cO3, cp3), ⟨hcc', rfl, fun _ => hb3⟩, ?_, ?_⟩
        · show cnt - (0 + 1) < cnt - 0
          omega
        refine ent_tau [0, 1, 6, 7] ⟨?_, ?_, rfl⟩
        · (repeat' (first | exact trivial | exact rfl | exact fun _ _ => rfl | exact fun _ _ _ _ => rfl | exact Or.inl rfl | exact Or.inr rfl | refine And.intro ?_ ?_))
        · (repeat' (first | exact trivial | exact rfl | exact congrArg (SV.int .i64) (Int.natCast_succ _).symm | refine And.intro ?_ ?_))
          exact congrArg (SV.int .i64) (show lo 0 + ((0 : Nat) : Int) + 1 = lo 0 + ((0 + 1 : Nat) : Int) by omega)
      · have := of_decide_eq_false hcc
        omega
    | succ c =>
      obtain ⟨hb1, hb2⟩ := hb (Nat.succ_pos c)
      refine And.intro ?_ (And.intro (fun hcc => ?_) (fun hcc => ?_))
      · (repeat' (first | exact trivial | exact fun _ => rfl | exact rfl | refine And.intro ?_ ?_))
        all_goals omega
      · have hcc' : c + 1 < cnt := by
          have := of_decide_eq_true hcc
          omega
        have hM2 : M ++ lsts lo hi N r (upd g 0 (lo 0 + (c + 1 : Nat))) = catG (fun v => lsts lo hi N r (upd g 0 v)) (lo 0) (c + 1 + 1) := by
          rw [hM]
          rfl
        (repeat' (first | exact trivial | exact fun _ => rfl | exact rfl | refine And.intro ?_ ?_))
        all_goals first | exact Nat.le_refl _ | omega | exact (fun k _ => rfl) | skip
        intro c1 hc1a hc1b
        (repeat' (first | exact trivial | exact fun _ => rfl | exact rfl | refine And.intro ?_ ?_))
        all_goals first | exact Nat.le_refl _ | omega | exact one1L rfl | (show (0 + 1) * 8 ≤ 140737488355328; omega) | skip
        intro c2 hc2a hc2b
        (repeat' (first | exact trivial | exact fun _ => rfl | exact rfl | refine And.intro ?_ ?_))
        refine CallP.frameH (t110a hN hlh r (0 + 1) (by omega) (by omega) c2 (upd g 0 (lo 0 + (c + 1 : Nat))) M cO' cp' ⟨hc2a, hc2b⟩ ⟨hb1, hb2⟩ (by
          rw [hM2]
          have := catG_le (fun v => lsts lo hi N r (upd g 0 v)) (lo 0) (show c + 1 + 1 ≤ cnt from hcc')
          omega)) [0, 7, 2, 3] ?_ rfl ?_
        · (repeat' (first | exact trivial | exact rfl | exact fun _ _ => rfl | exact fun _ _ _ _ => rfl | exact Or.inl rfl | exact Or.inr rfl | refine And.intro ?_ ?_))
          exact fun k hk => sel_upd0 hk rfl
        rintro ce h' ⟨cO3, cp3, hb3, rfl, rfl⟩
        refine ⟨rfl, ?_⟩
        refine And.intro ?_ ?_
        · (repeat' (first | exact trivial | exact fun _ => rfl | exact rfl | refine And.intro ?_ ?_))
          all_goals first | (show _ ≤ lo 0 + ((c + 1 : Nat) : Int) + 1; omega) | (show lo 0 + ((c + 1 : Nat) : Int) + 1 ≤ _; omega)
        refine ⟨(c + 1 + 1, M ++ lsts lo hi N r (upd g 0 (lo 0 + (c + 1 : Nat))), cO3, cp3), ⟨hcc', hM2, fun _ => hb3⟩, ?_, ?_⟩
        · show cnt - (c + 1 + 1) < cnt - (c + 1)
          omega
        refine ent_tau [0, 1, 8, 9] ⟨?_, ?_, rfl⟩
        · (repeat' (first | exact trivial | exact rfl | exact fun _ _ => rfl | exact fun _ _ _ _ => rfl | exact Or.inl rfl | exact Or.inr rfl | refine And.intro ?_ ?_))
        · (repeat' (first | exact trivial | exact rfl | exact congrArg (SV.int .i64) (Int.natCast_succ _).symm | refine And.intro ?_ ?_))
          exact congrArg (SV.int .i64) (show lo 0 + ((c + 1 : Nat) : Int) + 1 = lo 0 + ((c + 1 + 1 : Nat) : Int) by omega)
      · have hcn : c + 1 = cnt := by
          have := of_decide_eq_false hcc
          omega
        subst hcn
        rw [← hM]
        (repeat' (first | exact trivial | exact fun _ => rfl | exact rfl | refine And.intro ?_ ?_))
        refine ⟨.ret (.slice 1 1 0 M.length cO'), [some (.roa 2 N (row2 lo hi)), some (.arr 1 M.length cO' (rowsC 2 N cp')), some (poolL true N M)], ⟨cO', cp', ⟨hb1, hb2⟩, rfl, rfl⟩, ?_⟩
        refine ent_tau [0, 2, 3] ⟨?_, ?_, rfl⟩
        · (repeat' (first | exact trivial | exact rfl | exact fun _ _ => rfl | exact fun _ _ _ _ => rfl | exact Or.inl rfl | exact Or.inr rfl | refine And.intro ?_ ?_))
        · (repeat' (first | exact trivial | exact rfl | exact congrArg (SV.int .i64) (Int.natCast_succ _).symm | refine And.intro ?_ ?_))
end Go.Proofs.YtipbempkngfdbaaDoor
