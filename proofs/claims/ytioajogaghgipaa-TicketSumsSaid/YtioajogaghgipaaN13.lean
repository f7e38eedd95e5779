/-
  Parts: Sy28, Sy30, Sy31, Sy32, Sy33, Dr.
-/
import Derived.Test.YtioajogaghgipaaN12
import Derived.Recover
import Derived.Stop.LaidErr
set_option linter.unusedVariables false
/-
 Sy28: lists of lists of numbers: a pool of rows, how it is begun, how a row comes to it, how a row is read; blocks that are locked for a while. No program is named.
-/
namespace Go.Sy

theorem Sat.plus {η : Nam} {φ : Feet} {h : SHeap} {w0 w : World} {Ef : Nat → Prop} (s : Sat η φ h w0 Ef w) {o' : SObj} {a' : Nat × Nat} (F' : Nat → Prop)
    (hh : o'.holds (η.put h.length a') a' F' w) (hb : ∀ b, o'.foot a' F' b → b < w.heap.size)
    (ho : o'.rw = true → ∀ b, o'.foot a' F' b → Ef b ∨ w0.heap.size ≤ b)
    (h1 : o'.rw = true → ∀ j oj aj b, h[j]? = some (some oj) → η j = some aj → o'.foot a' F' b → ¬ oj.foot aj (φ j) b)
    (h2 : ∀ j oj aj b, h[j]? = some (some oj) → η j = some aj → oj.rw = true → oj.foot aj (φ j) b → ¬ o'.foot a' F' b) :
    η.le (η.put h.length a') ∧ Sat (η.put h.length a') (fun k => if k = h.length then F' else φ k) (h ++ [some o']) w0 Ef w := by
  have hnone : η h.length = none := s.free fun o => by rw [List.getElem?_eq_none (Nat.le_refl _)]; simp
  have hle := Nam.le_put (a := a') hnone
  have key : ∀ j oj, (h ++ [some o'])[j]? = some (some oj) → (j = h.length ∧ oj = o') ∨ (j ≠ h.length ∧ h[j]? = some (some oj)) := fun j oj hj => by
    rw [List.getElem?_append] at hj
    split at hj
    · rename_i hl; exact .inr ⟨by omega, hj⟩
    · rename_i hl
      rcases Nat.eq_or_lt_of_le (Nat.le_of_not_lt hl) with e | e
      · subst e; simp at hj; exact .inl ⟨rfl, hj.symm⟩
      · rw [List.getElem?_eq_none (by simp; omega)] at hj; cases hj
  refine ⟨hle, ?_⟩
  exact
    { size := s.size
      env := s.env
      keep := s.keep
      dom := fun j b hj => by
        by_cases hjn : j = h.length
        · subst hjn; exact ⟨o', by simp⟩
        · rw [Nam.put_other η _ hjn] at hj
          obtain ⟨o1, h1⟩ := s.dom j b hj
          have hl : j < h.length := by
            rcases Nat.lt_or_ge j h.length with h2 | h2
            · exact h2
            · rw [List.getElem?_eq_none h2] at h1; cases h1
          exact ⟨o1, by rw [List.getElem?_append_left hl]; exact h1⟩
      named := fun j oj hj => by
        rcases key j oj hj with ⟨rfl, _⟩ | ⟨_, h3⟩
        · exact ⟨a', Nam.put_same η _ _⟩
        · obtain ⟨b, hb⟩ := s.named j oj h3; exact ⟨b, hle j b hb⟩
      holds := fun j oj aj hj haj => by
        rcases key j oj hj with ⟨rfl, rfl⟩ | ⟨h4, h3⟩
        · rw [Nam.put_same] at haj; cases haj; simpa using hh
        · rw [Nam.put_other η _ h4] at haj; simp only [if_neg h4]; exact SObj.holds_mono hle (s.holds j oj aj h3 haj)
      bnd := fun j oj aj b hj haj hfb => by
        rcases key j oj hj with ⟨rfl, rfl⟩ | ⟨h4, h3⟩
        · rw [Nam.put_same] at haj; cases haj; simp only [if_true] at hfb; exact hb b hfb
        · rw [Nam.put_other η _ h4] at haj; simp only [if_neg h4] at hfb; exact s.bnd j oj aj b h3 haj hfb
      own := fun j oj aj b hj haj hr hfb => by
        rcases key j oj hj with ⟨rfl, rfl⟩ | ⟨h4, h3⟩
        · rw [Nam.put_same] at haj; cases haj; simp only [if_true] at hfb; exact ho hr b hfb
        · rw [Nam.put_other η _ h4] at haj; simp only [if_neg h4] at hfb; exact s.own j oj aj b h3 haj hr hfb
      sep := fun j k oj ok aj ak b hjk hj hk haj hak hr hfb hfk => by
        rcases key j oj hj with ⟨rfl, rfl⟩ | ⟨h4, h3⟩
        · rw [Nam.put_same] at haj; cases haj
          simp only [if_true] at hfb
          rcases key k ok hk with ⟨rfl, _⟩ | ⟨h5, h6⟩
          · exact hjk rfl
          · rw [Nam.put_other η _ h5] at hak
            simp only [if_neg h5] at hfk
            exact h1 hr k ok ak b h6 hak hfb hfk
        · rw [Nam.put_other η _ h4] at haj
          simp only [if_neg h4] at hfb
          rcases key k ok hk with ⟨rfl, rfl⟩ | ⟨h5, h6⟩
          · rw [Nam.put_same] at hak; cases hak
            simp only [if_true] at hfk
            exact h2 j oj aj b h3 haj hr hfb hfk
          · rw [Nam.put_other η _ h5] at hak
            simp only [if_neg h5] at hfk
            exact s.sep j k oj ok aj ak b hjk h3 h6 haj hak hr hfb hfk }
theorem pin_put {η : Nam} {h : SHeap} {n : Nat} (hn : n ≤ h.length) (a : Nat × Nat) : Pin n η (η.put h.length a) := fun i hi => Nam.put_other η a (by omega)

theorem entPool {n : Nat} {T : Tm} {H : SHeap} {D : List SV} (len : Nat → Nat) (get : Nat → Nat → Int) : Ent n ⟨T, H, D⟩ ⟨T, H ++ [some (.pool true 0 len get)], D⟩ := by
 intro η φ w0 Ef w a hn hs hT hD
 have no : ∀ F b, ¬ (SObj.pool true 0 len get).foot (0, 0) F b := fun F b hb => by
  obtain ⟨k, hk⟩ := hb
  rw [padr_zero] at hk
  cases hk
 obtain ⟨hle, hs2⟩ := hs.plus (o' := .pool true 0 len get) (a' := (0, 0)) (fun _ => False) (fun k hk => by omega) (fun b hb => (no _ b hb).elim) (fun _ b hb => (no _ b hb).elim) (fun _ _ _ _ b _ _ hb => (no _ b hb).elim) (fun _ _ _ b _ _ _ _ hb => (no _ b hb).elim)
 exact ⟨_, _, pin_put hn _, by simp only [List.length_append, List.length_singleton]; exact Nat.le_trans hn (Nat.le_succ _), hs2, hT.mono hle, hD.mono hle⟩

theorem entRow {n : Nat} {T T' : Tm} {H : SHeap} {D : List SV} {j np : Nat} {len : Nat → Nat} {get : Nat → Nat → Int} (hj : H[j]? = some (some (.pool false np len get))) (k : Nat) (hk : k < np) (hpos : 0 < len k)
  (hT' : ∀ (η : Nam) (b : Nat) (tm : Array Value), η H.length = some (b, 0) → (∀ l c, den η (.row j k l c) = some (.slice (some ⟨b, 0, none⟩) l c)) → TRel η T tm → TRel η T' tm) :
  Ent n ⟨T, H, D⟩ ⟨T', H ++ [some (.roa 1 (len k) fun m => [.int .i64 (get k m)])], D⟩ := by
 intro η φ w0 Ef w a hn hs hT hD
 obtain ⟨aj, haj⟩ := hs.named j _ hj
 rcases hs.holds j _ aj hj haj k hk with ⟨_, h0⟩ | ⟨b, Ty, c, h1, h3, h4⟩
 ·omega
 have ft : ∀ x, x = b → (SObj.pool false np len get).foot aj (φ j) x := fun x e => ⟨k, by rw [e]; exact h1⟩
 obtain ⟨hle, hs2⟩ := hs.plus (o' := .roa 1 (len k) fun m => [.int .i64 (get k m)]) (a' := (b, 0)) (fun _ => False)
  ⟨c, Ty, (0, 0), h3, fun m hm => ⟨[.int .i64 (get k m)], rfl, rfl, fun i v hi => by
   cases i with
   | zero => simp at hi; subst hi; simpa using h4 m hm
   | succ i => simp at hi⟩⟩
  (fun x hx => hs.bnd j _ aj x hj haj (ft x (Eq.symm hx))) (fun hr => by cases hr) (fun hr => by cases hr)
  (fun i oi ai x hi hai hr hfx hx => by
   by_cases hij : i = j
   ·subst hij; rw [hj] at hi; cases hi; cases hr
   ·exact hs.sep i j oi _ ai aj x hij hi hj hai haj hr hfx (ft x (Eq.symm hx)))
 refine ⟨_, _, pin_put hn _, by simp only [List.length_append, List.length_singleton]; exact Nat.le_trans hn (Nat.le_succ _), hs2, hT' _ b _ (Nam.put_same η _ _) (fun l c => ?_) (hT.mono hle), hD.mono hle⟩
 simp only [den, hle j aj haj, Option.bind_some, h1, rowV]
theorem CallP.row {P : Program} {f : FuncId} {args args' : List SV} {h : SHeap} {K : CE → SHeap → Prop} {j np : Nat} {len : Nat → Nat} {get : Nat → Nat → Int} (hj : h[j]? = some (some (.pool false np len get))) (k : Nat) (hk : k < np) (hpos : 0 < len k)
  (ha : ∀ (η : Nam) (b : Nat), η h.length = some (b, 0) → (∀ l c, den η (.row j k l c) = some (.slice (some ⟨b, 0, none⟩) l c)) → denL η args' = denL η args)
  (hc : CallP P f args' (h ++ [some (.roa 1 (len k) fun m => [.int .i64 (get k m)])]) K) : CallP P f args h K :=
 CallP.pre (entRow hj k hk hpos fun η b tm h1 h2 hT => by
  obtain ⟨tl⟩ := tm
  have := ha η b h1 h2
  rw [args_trel hT] at this
  exact trel_args this) hc
theorem CallP.entR {P : Program} {f : FuncId} {args : List SV} {h h1 h2 : SHeap} {v v' : SV} (hc : CallP P f args h (Ret v h1)) (he : Ent h.length ⟨[some (none, v)], h1, []⟩ ⟨[some (none, v')], h2, []⟩) : CallP P f args h (Ret v' h2) :=
 CallP.ent (hc.mono fun ce h1' hk => by
  obtain ⟨rfl, rfl⟩ := hk
  exact ⟨.ret v', h2, ⟨rfl, rfl⟩, he⟩)

structure PushRel (η : Nam) (i j L n : Nat) : Prop where
 at' : ∃ ai aj aL : Nat × Nat, η i = some ai ∧ ai.2 = 0 ∧ η j = some aj ∧ η L = some aL ∧ (∀ k, k < n → padr aL.2 k = padr aj.2 k) ∧ padr aL.2 n = ai.1 + 1
theorem PushRel.old {η : Nam} {i j L n : Nat} (h : PushRel η i j L n) {k : Nat} (hk : k < n) (l c : Nat) : den η (.row j k l c) = den η (.row L k l c) := by
 obtain ⟨ai, aj, aL, h1, h2, h3, h4, h5, h6⟩ := h.at'
 simp only [den, h3, h4, Option.bind_some, h5 k hk]
theorem PushRel.new {η : Nam} {i j L n : Nat} (h : PushRel η i j L n) (l c : Nat) : den η (.slice i 1 0 l c) = den η (.row L n l c) := by
 obtain ⟨ai, aj, aL, h1, h2, h3, h4, h5, h6⟩ := h.at'
 simp only [den, h1, h4, Option.bind_some, Option.map_some, h6, rowV, h2]
theorem enc_push (c n x : Nat) : ∃ c', (∀ k, k < n → padr c' k = padr c k) ∧ padr c' n = x ∧ ∀ k, n < k → padr c' k = 0 := by
 refine ⟨encL ((List.range n).map (padr c) ++ [x]), fun k hk => ?_, ?_, fun k hk => ?_⟩
 ·rw [padr_enc, List.getD, List.getElem?_append_left (by simpa using hk), List.getElem?_map, List.getElem?_range hk]
  rfl
 ·rw [padr_enc, List.getD, List.getElem?_append_right (by simp)]
  simp
 ·rw [padr_enc, List.getD, List.getElem?_eq_none (by simp; omega)]
  rfl

theorem entPush {n : Nat} {T : Tm} {H : SHeap} {D : List SV} {i j o np m cap sz M capO : Nat} {g go go' : Nat → List SV} {len len' : Nat → Nat} {get get' : Nat → Nat → Int}
  (hi : H[i]? = some (some (.arr 1 m cap g))) (hj : H[j]? = some (some (.pool true np len get))) (hO : H[o]? = some (some (.arr sz M capO go))) (hne : o ≠ i)
  (hg : ∀ q, q < m → g q = [.int .i64 (get' np q)]) (hl : ∀ k, k < np → len' k = len k) (hln : len' np ≤ m) (hget : ∀ k, k < np → ∀ q, q < len k → get' k q = get k q)
  (hgo : ∀ η, PushRel η i j H.length np → ∀ k, k < M → denL η (go k) = denL η (go' k)) :
  Ent n ⟨T, H, D⟩ ⟨T, (((H.set i (some .dead)).set j (some .dead)).set o (some (.arr sz M capO go'))) ++ [some (.pool true (np + 1) len' get')], D⟩ := by
 intro η φ w0 Ef w a hn hs hT hD
 obtain ⟨ai, hai⟩ := hs.named i _ hi
 obtain ⟨aj, haj⟩ := hs.named j _ hj
 have hij : i ≠ j := fun e => by subst e; rw [hi] at hj; cases hj
 have hoi : o ≠ j := fun e => by subst e; rw [hO] at hj; cases hj
 obtain ⟨z0, Ty, c, hw, hsz, hmc, hel⟩ := hs.holds i _ ai hi hai
 have hp := hs.holds j _ aj hj haj
 obtain ⟨code, e1, e2, e3⟩ := enc_push aj.2 np (ai.1 + 1)
 have s1 := hs.less (o' := .dead) hi (fun _ _ hb => hb.elim) (fun hr => by cases hr) (fun _ _ => trivial)
 have hj1 : (H.set i (some .dead))[j]? = some (some (.pool true np len get)) := by rw [List.getElem?_set_ne hij]; exact hj
 have s2 := s1.less (o' := .dead) hj1 (fun _ _ hb => hb.elim) (fun hr => by cases hr) (fun _ _ => trivial)
 have foot : ∀ F x, (SObj.pool true (np + 1) len' get').foot (aj.1, code) F x → (SObj.arr 1 m cap g).foot ai (φ i) x ∨ (SObj.pool true np len get).foot aj (φ j) x := fun F x hx => by
  obtain ⟨k, h1⟩ := hx
  rcases Nat.lt_trichotomy k np with h | rfl | h
  ·rw [e1 k h] at h1; exact .inr ⟨k, h1⟩
  ·rw [e2] at h1; exact .inl (Nat.succ.inj h1)
  ·rw [e3 k h] at h1; cases h1
 have key : ∀ q oq, ((H.set i (some .dead)).set j (some .dead))[q]? = some (some oq) → oq = .dead ∨ (q ≠ i ∧ q ≠ j ∧ H[q]? = some (some oq)) := fun q oq hq => by
  rcases get_set hq with ⟨_, h2, _⟩ | ⟨h1, h2⟩
  ·cases h2; exact .inl rfl
  ·rcases get_set h2 with ⟨_, h4, _⟩ | ⟨h3, h4⟩
   ·cases h4; exact .inl rfl
   ·exact .inr ⟨h3, h1, h4⟩
 obtain ⟨hle, s3⟩ := s2.plus (o' := .pool true (np + 1) len' get') (a' := (aj.1, code)) (fun _ => False)
  (fun k hk => by
   rcases Nat.lt_succ_iff_lt_or_eq.1 hk with h | rfl
   ·rcases hp k h with ⟨h1, h2⟩ | ⟨b, Tb, cb, h1, h3, h4⟩
    ·exact .inl ⟨by rw [e1 k h]; exact h1, by rw [hl k h]; exact h2⟩
    ·exact .inr ⟨b, Tb, cb, by rw [e1 k h]; exact h1, h3, fun q hq => by rw [hl k h] at hq; rw [hget k h q hq]; exact h4 q hq⟩
   ·refine .inr ⟨ai.1, Ty, c, e2, hw, fun q hq => ?_⟩
    obtain ⟨vs, d1, d2, d3⟩ := hel q (by omega)
    rw [hg q (by omega)] at d1
    simp only [denL, den, Option.bind_some, Option.map_some, Option.some.injEq] at d1
    subst d1
    simpa using d3 0 _ rfl)
  (fun x hx => by
   rcases foot _ x hx with h | h
   ·exact hs.bnd i _ ai x hi hai h
   ·exact hs.bnd j _ aj x hj haj h)
  (fun _ x hx => by
   rcases foot _ x hx with h | h
   ·exact hs.own i _ ai x hi hai rfl h
   ·exact hs.own j _ aj x hj haj rfl h)
  (fun _ q oq aq x hq haq hx hqx => by
   rcases key q oq hq with rfl | ⟨q1, q2, q3⟩
   ·exact hqx
   ·rcases foot _ x hx with h | h
    ·exact hs.sep i q _ oq ai aq x (Ne.symm q1) hi q3 hai haq rfl h hqx
    ·exact hs.sep j q _ oq aj aq x (Ne.symm q2) hj q3 haj haq rfl h hqx)
  (fun q oq aq x hq haq hr hqx hx => by
   rcases key q oq hq with rfl | ⟨q1, q2, q3⟩
   ·exact hqx
   ·rcases foot _ x hx with h | h
    ·exact hs.sep i q _ oq ai aq x (Ne.symm q1) hi q3 hai haq rfl h hqx
    ·exact hs.sep j q _ oq aj aq x (Ne.symm q2) hj q3 haj haq rfl h hqx)
 simp only [List.length_set] at s3 hle
 have rel : PushRel (η.put H.length (aj.1, code)) i j H.length np := ⟨ai, aj, (aj.1, code), hle i ai hai, z0, hle j aj haj, Nam.put_same η _ _, e1, e2⟩
 have lo : o < H.length := lt_of_get hO
 have hO3 : (((H.set i (some .dead)).set j (some .dead)) ++ [some (.pool true (np + 1) len' get')])[o]? = some (some (.arr sz M capO go)) := by
  rw [List.getElem?_append_left (by simpa using lo), List.getElem?_set_ne (Ne.symm hoi), List.getElem?_set_ne (Ne.symm hne)]
  exact hO
 have s4 := s3.less (o' := .arr sz M capO go') hO3 (fun _ _ hb => hb) (fun _ => rfl) (fun ad hh => by
  obtain ⟨h0, Ta, ca, h1, h2, h3, h4⟩ := hh
  refine ⟨h0, Ta, ca, h1, h2, h3, fun k hk => ?_⟩
  rw [← hgo _ rel k (by omega)]
  exact h4 k hk)
 rw [List.set_append_left _ _ (by simpa using lo)] at s4
 refine ⟨_, _, pin_put hn _, ?_, s4, hT.mono hle, hD.mono hle⟩
 simp only [List.length_append, List.length_singleton, List.length_set]
 exact Nat.le_trans hn (Nat.le_succ _)
end Go.Sy
/-
 Sy30: temporaries said otherwise; an empty row beside a block that is only read. No program is named.
-/
namespace Go.Sy
open Go

theorem Sat.alias {η : Nam} {φ : Feet} {h : SHeap} {w0 w : World} {Ef : Nat → Prop} (s : Sat η φ h w0 Ef w) {i : Nat} {o : SObj} {a : Nat × Nat} (hi : h[i]? = some (some o)) (ha : η i = some a)
  (hc : ∃ c T fz, w.heap[a.1]? = some (.cells c T fz)) (hr : o.rw = false) (hf : o.foot a (φ i) a.1) (sz : Nat) (get : Nat → List SV) :
  Sat (fun j => if j = h.length then some a else η j) φ (h ++ [some (.roa sz 0 get)]) w0 Ef w := by
 have hη : ∀ j, j < h.length → (if j = h.length then some a else η j) = η j := fun j hj => if_neg (by omega)
 have le : η.le (fun j => if j = h.length then some a else η j) := fun j b e => by
  have hj : j < h.length := by
   obtain ⟨o1, h1⟩ := s.dom j b e
   rcases Nat.lt_or_ge j h.length with h2 | h2
   ·exact h2
   ·rw [List.getElem?_eq_none h2] at h1; cases h1
  show (if j = h.length then some a else η j) = some b
  rw [if_neg (by omega)]
  exact e
 have get? : ∀ (j : Nat) x, (h ++ [some (SObj.roa sz 0 get)])[j]? = some x → (j < h.length ∧ h[j]? = some x) ∨ (j = h.length ∧ x = some (.roa sz 0 get)) := fun j x e => by
  rcases Nat.lt_trichotomy j h.length with h1 | h1 | h1
  ·rw [List.getElem?_append_left h1] at e
   exact .inl ⟨h1, e⟩
  ·subst h1
   rw [List.getElem?_append_right (Nat.le_refl _)] at e
   simp at e
   exact .inr ⟨rfl, e.symm⟩
  ·rw [List.getElem?_eq_none (by simp; omega)] at e
   cases e
 have old : ∀ (j : Nat) (b : Nat × Nat), j < h.length → (if j = h.length then some a else η j) = some b → η j = some b := fun j b hj e => by rwa [if_neg (by omega)] at e
 have new : ∀ (b : Nat × Nat), (if h.length = h.length then some a else η h.length) = some b → a = b := fun b e => by rw [if_pos rfl] at e; exact Option.some.inj e
 constructor
 ·exact s.size
 ·exact s.env
 ·exact s.keep
 ·intro j b e
  by_cases hj : j = h.length
  ·subst hj
   exact ⟨.roa sz 0 get, by rw [List.getElem?_append_right (Nat.le_refl _)]; simp⟩
  ·have e' : η j = some b := by simpa [hj] using e
   obtain ⟨o1, h1⟩ := s.dom j b e'
   refine ⟨o1, ?_⟩
   have : j < h.length := by
    rcases Nat.lt_or_ge j h.length with h2 | h2
    ·exact h2
    ·rw [List.getElem?_eq_none h2] at h1; cases h1
   rwa [List.getElem?_append_left this]
 ·intro j o1 e
  rcases get? j _ e with ⟨h1, h2⟩ | ⟨rfl, _⟩
  ·obtain ⟨b, hb⟩ := s.named j o1 h2
   exact ⟨b, by rw [hη j h1]; exact hb⟩
  ·exact ⟨a, if_pos rfl⟩
 ·intro j o1 b e e'
  rcases get? j _ e with ⟨h1, h2⟩ | ⟨rfl, h2⟩
  ·exact SObj.holds_mono le (s.holds j o1 b h2 (old j b h1 e'))
  ·cases h2
   cases new b e'
   obtain ⟨c, T, fz, h3⟩ := hc
   exact ⟨c, T, fz, h3, fun k hk => by omega⟩
 ·intro j o1 b x e e' hx
  rcases get? j _ e with ⟨h1, h2⟩ | ⟨rfl, h2⟩
  ·exact s.bnd j o1 b x h2 (old j b h1 e') hx
  ·cases h2
   cases new b e'
   have hx' : a.1 = x := hx
   subst hx'
   exact s.bnd i o a a.1 hi ha hf
 ·intro j o1 b x e e' hr1 hx
  rcases get? j _ e with ⟨h1, h2⟩ | ⟨rfl, h2⟩
  ·exact s.own j o1 b x h2 (old j b h1 e') hr1 hx
  ·cases h2
   cases hr1
 ·intro j k oj ok aj ak x hjk ej ek ej' ek' hr1 hx hk
  rcases get? j _ ej with ⟨h1, h2⟩ | ⟨rfl, h2⟩
  ·rcases get? k _ ek with ⟨h3, h4⟩ | ⟨rfl, h4⟩
   ·exact s.sep j k oj ok aj ak x hjk h2 h4 (old j aj h1 ej') (old k ak h3 ek') hr1 hx hk
   ·cases h4
    cases new ak ek'
    have hk' : a.1 = x := hk
    subst hk'
    have hji : j ≠ i := fun e => by
     subst e
     rw [h2] at hi
     cases hi
     rw [hr] at hr1
     cases hr1
    exact s.sep j i oj o aj a a.1 hji h2 hi (old j aj h1 ej') ha hr1 hx hf
  ·cases h2
   cases hr1
theorem entAlias {n : Nat} {T : Tm} {H : SHeap} {D : List SV} {i sz0 m0 : Nat} {get0 : Nat → List SV} (hi : H[i]? = some (some (.roa sz0 m0 get0))) (sz : Nat) (get : Nat → List SV) : Ent n ⟨T, H, D⟩ ⟨T, H ++ [some (.roa sz 0 get)], D⟩ := by
 intro η φ w0 Ef w a hn hs hT hD
 obtain ⟨ad, ha⟩ := hs.named i _ hi
 obtain ⟨c, Ty, fz, hh, _⟩ := hs.holds i _ ad hi ha
 have hs2 := hs.alias hi ha ⟨c, Ty, fz, hh⟩ rfl rfl sz get
 have le : η.le (fun j => if j = H.length then some ad else η j) := fun j b e => by
  have hj : j < H.length := by
   obtain ⟨o1, h1⟩ := hs.dom j b e
   rcases Nat.lt_or_ge j H.length with h2 | h2
   ·exact h2
   ·rw [List.getElem?_eq_none h2] at h1; cases h1
  show (if j = H.length then some ad else η j) = some b
  rw [if_neg (by omega)]
  exact e
 refine ⟨_, _, fun j hj => if_neg ?_, ?_, hs2, hT.mono le, hD.mono le⟩
 ·have : n ≤ H.length := hn
  omega
 ·have : n ≤ H.length := hn
  simp only [List.length_append, List.length_singleton]
  omega
def TmEq : Tm → Tm → Prop
 | [], [] => True
 | _ :: xs, none :: ys => TmEq xs ys
 | some (g, v) :: xs, some (g', v') :: ys => g = g' ∧ (∀ η, den η v = den η v') ∧ TmEq xs ys
 | _, _ => False
theorem TmEq.get : ∀ {S T : Tm}, TmEq S T → S.length = T.length ∧ ∀ (k : Nat) (g : Option Bool) (v : SV), T[k]? = some (some (g, v)) → ∃ u, S[k]? = some (some (g, u)) ∧ ∀ η, den η u = den η v
 | [], [], _ => ⟨rfl, fun k g v h => by simp at h⟩
 | x :: xs, none :: ys, h => by
  obtain ⟨a, b⟩ := TmEq.get (S := xs) (T := ys) (by cases x <;> exact h)
  refine ⟨by simp [a], fun k g v hk => ?_⟩
  cases k with
  | zero => simp at hk
  | succ k => simpa using b k g v (by simpa using hk)
 | some (g, v) :: xs, some (g', v') :: ys, h => by
  obtain ⟨h1, h2, h3⟩ := h
  obtain ⟨a, b⟩ := TmEq.get h3
  refine ⟨by simp [a], fun k g2 v2 hk => ?_⟩
  cases k with
  | zero =>
   simp only [List.getElem?_cons_zero, Option.some.injEq, Prod.mk.injEq] at hk
   obtain ⟨rfl, rfl⟩ := hk
   exact ⟨v, by rw [h1]; rfl, h2⟩
  | succ k => simpa using b k g2 v2 (by simpa using hk)
theorem entTm {n : Nat} {T T' : Tm} {H : SHeap} {D : List SV} (h : TmEq T T') : Ent n ⟨T, H, D⟩ ⟨T', H, D⟩ := by
 intro η φ w0 Ef w a hn hs hT hD
 obtain ⟨hl, hg⟩ := h.get
 refine ⟨η, φ, fun _ _ => rfl, hn, hs, ⟨hT.1.trans hl, fun k g sv hk => ?_⟩, hD⟩
 obtain ⟨u, h1, h2⟩ := hg k g sv hk
 obtain ⟨a1, a2⟩ := hT.2 k g u h1
 exact ⟨fun hgd => by rw [← h2]; exact a1 hgd, a2⟩
theorem entTmR {n : Nat} {s : St} {T T' : Tm} {H : SHeap} {D : List SV} (h : Ent n s ⟨T, H, D⟩) (h' : TmEq T T') : Ent n s ⟨T', H, D⟩ := h.trans (entTm h')
end Go.Sy
/-
 Sy31: a block that is owned goes by a new name; rows that lie in it are said by the new one. No program is named.
-/
namespace Go.Sy
open Go
def TmEqN (η : Nam) : Tm → Tm → Prop
 | [], [] => True
 | _ :: xs, none :: ys => TmEqN η xs ys
 | some (g, v) :: xs, some (g', v') :: ys => g = g' ∧ den η v = den η v' ∧ TmEqN η xs ys
 | _, _ => False
theorem TmEqN.get {η : Nam} : ∀ {S T : Tm}, TmEqN η S T → S.length = T.length ∧ ∀ (k : Nat) (g : Option Bool) (v : SV), T[k]? = some (some (g, v)) → ∃ u, S[k]? = some (some (g, u)) ∧ den η u = den η v
 | [], [], _ => ⟨rfl, fun k g v h => by simp at h⟩
 | x :: xs, none :: ys, h => by
  obtain ⟨a, b⟩ := TmEqN.get (S := xs) (T := ys) (by cases x <;> exact h)
  refine ⟨by simp [a], fun k g v hk => ?_⟩
  cases k with
  | zero => simp at hk
  | succ k => simpa using b k g v (by simpa using hk)
 | some (g, v) :: xs, some (g', v') :: ys, h => by
  obtain ⟨h1, h2, h3⟩ := h
  obtain ⟨a, b⟩ := TmEqN.get h3
  refine ⟨by simp [a], fun k g2 v2 hk => ?_⟩
  cases k with
  | zero =>
   simp only [List.getElem?_cons_zero, Option.some.injEq, Prod.mk.injEq] at hk
   obtain ⟨rfl, rfl⟩ := hk
   exact ⟨v, by rw [h1]; rfl, h2⟩
  | succ k => simpa using b k g2 v2 (by simpa using hk)
theorem TmEqN.rel {η : Nam} {T T' : Tm} {tm : Array Value} (h : TmEqN η T T') (hT : TRel η T tm) : TRel η T' tm := by
 obtain ⟨hl, hg⟩ := h.get
 refine ⟨hT.1.trans hl, fun k g sv hk => ?_⟩
 obtain ⟨u, h1, h2⟩ := hg k g sv hk
 obtain ⟨a1, a2⟩ := hT.2 k g u h1
 exact ⟨fun hgd => by rw [← h2]; exact a1 hgd, a2⟩
theorem Sat.rename {η : Nam} {φ : Feet} {h : SHeap} {w0 w : World} {Ef : Nat → Prop} (s : Sat η φ h w0 Ef w) {i : Nat} {o : SObj} {ai : Nat × Nat} (hi : h[i]? = some (some o)) (hai : η i = some ai) (_hrw : o.rw = true) :
  η.le (η.put h.length ai) ∧ Sat (η.put h.length ai) (fun k => if k = h.length then φ i else φ k) ((h.set i (some .dead)) ++ [some o]) w0 Ef w := by
 have s1 := s.less (o' := .dead) hi (fun _ _ hb => hb.elim) (fun hr => by cases hr) (fun _ _ => trivial)
 have key : ∀ q oq, (h.set i (some .dead))[q]? = some (some oq) → oq = .dead ∨ (q ≠ i ∧ h[q]? = some (some oq)) := fun q oq hq => by
  rcases get_set hq with ⟨_, h2, _⟩ | ⟨h1, h2⟩
  ·cases h2; exact .inl rfl
  ·exact .inr ⟨h1, h2⟩
 have hnone : η h.length = none := s.free fun o => by rw [List.getElem?_eq_none (Nat.le_refl _)]; simp
 have hle := Nam.le_put (a := ai) hnone
 have := s1.plus (o' := o) (a' := ai) (φ i)
  (by rw [List.length_set]; exact SObj.holds_mono hle (s.holds i o ai hi hai))
  (fun b hb => s.bnd i o ai b hi hai hb)
  (fun hr b hb => s.own i o ai b hi hai hr hb)
  (fun hr q oq aq b hq haq hb hqb => by
   rcases key q oq hq with rfl | ⟨q1, q2⟩
   ·exact hqb
   ·exact s.sep i q o oq ai aq b (Ne.symm q1) hi q2 hai haq hr hb hqb)
  (fun q oq aq b hq haq hr hqb hb => by
   rcases key q oq hq with rfl | ⟨q1, q2⟩
   ·exact hqb
   ·exact s.sep q i oq o aq ai b q1 q2 hi haq hai hr hqb hb)
 simp only [List.length_set] at this
 exact this
theorem entMove {n : Nat} {T T' : Tm} {H : SHeap} {D : List SV} {i : Nat} {o : SObj} (hi : H[i]? = some (some o)) (hrw : o.rw = true) (hT' : ∀ η : Nam, η H.length = η i → TmEqN η T T') :
  Ent n ⟨T, H, D⟩ ⟨T', (H.set i (some .dead)) ++ [some o], D⟩ := by
 intro η φ w0 Ef w a hn hs hT hD
 obtain ⟨ai, hai⟩ := hs.named i _ hi
 obtain ⟨hle, s1⟩ := hs.rename hi hai hrw
 refine ⟨_, _, pin_put hn _, ?_, s1, (hT' _ ?_).rel (hT.mono hle), hD.mono hle⟩
 ·simp only [List.length_append, List.length_singleton, List.length_set]
  exact Nat.le_trans hn (Nat.le_succ _)
 ·rw [Nam.put_same, hle i ai hai]
theorem entMoveG {n : Nat} {T : Tm} {H : SHeap} {D : List SV} {j o sz M cap : Nat} {ob : SObj} {go go' : Nat → List SV} (hj : H[j]? = some (some ob)) (hrw : ob.rw = true) (hO : H[o]? = some (some (.arr sz M cap go))) (hne : o ≠ j)
  (hgo : ∀ η : Nam, η H.length = η j → ∀ k, k < M → denL η (go k) = denL η (go' k)) :
  Ent n ⟨T, H, D⟩ ⟨T, (((H.set j (some .dead)).set o (some (.arr sz M cap go'))) ++ [some ob]), D⟩ := by
 intro η φ w0 Ef w a hn hs hT hD
 obtain ⟨aj, haj⟩ := hs.named j _ hj
 obtain ⟨hle, s1⟩ := hs.rename hj haj hrw
 have lo : o < H.length := lt_of_get hO
 have hO3 : ((H.set j (some .dead)) ++ [some ob])[o]? = some (some (.arr sz M cap go)) := by
  rw [List.getElem?_append_left (by simpa using lo), List.getElem?_set_ne (Ne.symm hne)]
  exact hO
 have s4 := s1.less (o' := .arr sz M cap go') hO3 (fun _ _ hb => hb) (fun _ => rfl) (fun ad hh => by
  obtain ⟨h0, Ta, ca, h1, h2, h3, h4⟩ := hh
  refine ⟨h0, Ta, ca, h1, h2, h3, fun k hk => ?_⟩
  rw [← hgo _ (by rw [Nam.put_same, hle j aj haj]) k (by omega)]
  exact h4 k hk)
 rw [List.set_append_left _ _ (by simpa using lo)] at s4
 refine ⟨_, _, pin_put hn _, ?_, s4, hT.mono hle, hD.mono hle⟩
 simp only [List.length_append, List.length_singleton, List.length_set]
 exact Nat.le_trans hn (Nat.le_succ _)
end Go.Sy
/-
 Sy32: some blocks said as one, and said one by one again. No program is named.
-/
namespace Go.Sy
open Go
def getN (l : List (Option (Nat × Nat))) (j : Nat) : Option (Nat × Nat) :=
 match l[j]? with
 | some x => x
 | none => none
theorem NLe.getN {l l' : List (Option (Nat × Nat))} (h : NLe l l') : Nam.le (getN l) (getN l') := fun j a hj => by
 unfold Go.Sy.getN at hj ⊢
 cases hl : l[j]? with
 | none => rw [hl] at hj; cases hj
 | some x =>
  rw [hl] at hj
  simp only at hj
  subst hj
  rw [h.2 j a hl]
def packR (ps : List (Nat × SObj)) : OB where
 R l F w := ∃ φ : Nat → Nat → Prop,
  (∀ p ∈ ps, ∃ a, getN l p.1 = some a ∧ p.2.holds (getN l) a (φ p.1) w ∧ ∀ b, p.2.foot a (φ p.1) b → F b) ∧
  ∀ p ∈ ps, ∀ q ∈ ps, p.1 ≠ q.1 → ∀ a a' b, getN l p.1 = some a → getN l q.1 = some a' → p.2.foot a (φ p.1) b → ¬ q.2.foot a' (φ q.1) b
 mono := by
  rintro l l' F w hn ⟨φ, h1, h2⟩
  have le := hn.getN
  refine ⟨φ, fun p hp => ?_, fun p hp q hq hne a a' b ha ha' => ?_⟩
  ·obtain ⟨a, ha, hh, hf⟩ := h1 p hp
   exact ⟨a, le _ _ ha, SObj.holds_mono le hh, hf⟩
  ·obtain ⟨c, hc, _⟩ := h1 p hp
   obtain ⟨c', hc', _⟩ := h1 q hq
   have e1 := (le _ _ hc).symm.trans ha
   have e2 := (le _ _ hc').symm.trans ha'
   simp only [Option.some.injEq] at e1 e2
   subst e1 e2
   exact h2 p hp q hq hne c c' b hc hc'
 near := by
  rintro l F w w' hw ⟨φ, h1, h2⟩
  refine ⟨φ, fun p hp => ?_, h2⟩
  obtain ⟨a, ha, hh, hf⟩ := h1 p hp
  exact ⟨a, ha, SObj.holds_local hh fun b hb => hw b (hf b hb), hf⟩
def lookP (σ : List Nat) : List (Nat × SObj) → Nat → Option SObj
 | [], _ => none
 | p :: ps, k => match σ[p.1]? with
  | some j => match Nat.beq j k with
   | true => some p.2
   | false => lookP σ ps k
  | none => lookP σ ps k
theorem lookP_some {σ : List Nat} {k : Nat} {x : SObj} : ∀ {ps : List (Nat × SObj)}, lookP σ ps k = some x → ∃ p ∈ ps, σ[p.1]? = some k ∧ p.2 = x
 | [], h => by cases h
 | p :: ps, h => by
  rw [lookP] at h
  split at h
  ·rename_i j hj
   split at h
   ·rename_i hb
    have e := Nat.eq_of_beq_eq_true hb
    subst e
    simp only [Option.some.injEq] at h
    exact ⟨p, List.mem_cons_self, hj, h⟩
   ·obtain ⟨q, hq, r⟩ := lookP_some h
    exact ⟨q, List.mem_cons_of_mem _ hq, r⟩
  ·obtain ⟨q, hq, r⟩ := lookP_some h
   exact ⟨q, List.mem_cons_of_mem _ hq, r⟩
theorem lookP_none {σ : List Nat} {k : Nat} : ∀ {ps : List (Nat × SObj)}, lookP σ ps k = none → ∀ p ∈ ps, σ[p.1]? ≠ some k
 | [], _, p, hp => by cases hp
 | p :: ps, h, q, hq => by
  rw [lookP] at h
  split at h
  ·rename_i j hj
   split at h
   ·cases h
   ·rename_i hb
    rcases List.mem_cons.1 hq with rfl | hq
    ·intro e
     rw [hj] at e
     simp only [Option.some.injEq] at e
     rw [e, Nat.beq_refl] at hb
     cases hb
    ·exact lookP_none h q hq
  ·rename_i hj
   rcases List.mem_cons.1 hq with rfl | hq
   ·rw [hj]
    simp
   ·exact lookP_none h q hq
def injP (σ : List Nat) : List (Nat × SObj) → Bool
 | [] => true
 | p :: ps => (match σ[p.1]? with
  | some j => match lookP σ ps j with
   | some _ => false
   | none => true
  | none => false) && injP σ ps
theorem injP_ok {σ : List Nat} : ∀ {ps : List (Nat × SObj)}, injP σ ps = true → ∀ p ∈ ps, ∀ q ∈ ps, σ[p.1]? = σ[q.1]? → p = q
 | [], _, p, hp, _, _, _ => by cases hp
 | x :: ps, h, p, hp, q, hq, e => by
  rw [injP, Bool.and_eq_true] at h
  obtain ⟨h1, h2⟩ := h
  have hx : ∀ y ∈ ps, σ[x.1]? ≠ σ[y.1]? := fun y hy e2 => by
   split at h1
   ·rename_i j hj
    split at h1
    ·cases h1
    ·rename_i hl
     exact lookP_none hl y hy (e2.symm.trans hj)
   ·cases h1
  rcases List.mem_cons.1 hp with e1 | hp' <;> rcases List.mem_cons.1 hq with e2 | hq'
  ·rw [e1, e2]
  ·rw [e1] at e
   exact absurd e (hx q hq')
  ·rw [e2] at e
   exact absurd e.symm (hx p hp')
  ·exact injP_ok h2 p hp' q hq' e
def PFits (F : Nat → Nat) (h : SHeap) (σ : List Nat) : List (Nat × SObj) → Prop
 | [] => True
 | p :: ps => (match σ[p.1]? with
  | some j => match h[j]? with
   | some (some o) => ObjLe F o p.2 ∧ o.rw = true ∧ p.2.rw = true
   | _ => False
  | none => False) ∧ PFits F h σ ps
theorem PFits.get {F : Nat → Nat} {h : SHeap} {σ : List Nat} : ∀ {ps : List (Nat × SObj)}, PFits F h σ ps → ∀ p ∈ ps, ∃ j o, σ[p.1]? = some j ∧ h[j]? = some (some o) ∧ ObjLe F o p.2 ∧ o.rw = true ∧ p.2.rw = true
 | [], _, p, hp => by cases hp
 | x :: ps, hf, p, hp => by
  obtain ⟨h1, h2⟩ := hf
  rcases List.mem_cons.1 hp with rfl | hp
  ·split at h1
   ·rename_i j hj
    split at h1
    ·rename_i o ho
     exact ⟨j, o, hj, ho, h1⟩
    ·exact h1.elim
   ·exact h1.elim
  ·exact h2.get p hp
def packH (σ : List Nat) (ps : List (Nat × SObj)) (i : Nat) : Nat → SHeap → SHeap
 | _, [] => []
 | k, o :: h => (match Nat.beq k i with
  | true => some (.pack σ (packR ps))
  | false => match lookP σ ps k with
   | some _ => some .dead
   | none => o) :: packH σ ps i (k + 1) h
theorem packH_length {σ : List Nat} {ps : List (Nat × SObj)} {i : Nat} : ∀ (h : SHeap) (k : Nat), (packH σ ps i k h).length = h.length
 | [], _ => rfl
 | o :: h, k => by simp [packH, packH_length h]
theorem packH_get {σ : List Nat} {ps : List (Nat × SObj)} {i : Nat} : ∀ (h : SHeap) (k j : Nat), (packH σ ps i k h)[j]? = (h[j]?).map fun o => if k + j = i then some (.pack σ (packR ps)) else match lookP σ ps (k + j) with
   | some _ => some .dead
   | none => o
 | [], k, j => by simp [packH]
 | o :: h, k, 0 => by
  simp only [packH, List.getElem?_cons_zero, Option.map_some, Nat.add_zero, Option.some.injEq]
  by_cases e : k = i
  ·subst e; simp
  ·have : Nat.beq k i = false := by
    cases hb : Nat.beq k i with
    | false => rfl
    | true => exact absurd (Nat.eq_of_beq_eq_true hb) e
   rw [this, if_neg e]
 | o :: h, k, j + 1 => by
  simp only [packH, List.getElem?_cons_succ]
  rw [packH_get h (k + 1) j, show k + 1 + j = k + (j + 1) by omega]
theorem getN_map {η : Nam} {σ : List Nat} {m : Nat} (hm : η m = none) : getN (σ.map η) = fun k => η (sel σ m k) := by
 funext k
 unfold getN sel
 rw [List.getElem?_map]
 cases σ[k]? with
 | none => exact hm.symm
 | some j => rfl
theorem Sat.pack {η : Nam} {φ : Feet} {h : SHeap} {w0 w : World} {Ef : Nat → Prop} (s : Sat η φ h w0 Ef w) {σ : List Nat} {ps : List (Nat × SObj)} {i : Nat} (hf : PFits (sel σ h.length) h σ ps) (hj : injP σ ps = true) (hi : (lookP σ ps i).isSome = true) :
    ∃ φ', Sat η φ' (packH σ ps i 0 h) w0 Ef w := by
  have hfree : η h.length = none := s.free fun o => by rw [List.getElem?_eq_none (Nat.le_refl _)]; simp
  have gN := getN_map (σ := σ) hfree
  have gA : ∀ {k j}, σ[k]? = some j → getN (σ.map η) k = η j := fun {k j} e => by rw [gN]; simp only [sel, e]
  let F : Nat → Prop := fun b => ∃ p ∈ ps, ∃ j a, σ[p.1]? = some j ∧ η j = some a ∧ p.2.foot a (φ j) b
  have hFo : ∀ {b}, F b → ∃ p ∈ ps, ∃ j a o, σ[p.1]? = some j ∧ η j = some a ∧ h[j]? = some (some o) ∧ o.rw = true ∧ o.foot a (φ j) b := fun {b} ⟨p, hp, j, a, h1, h2, h3⟩ => by
    obtain ⟨j', o, e1, e2, e3, e4, _⟩ := hf.get p hp
    rw [h1] at e1
    simp only [Option.some.injEq] at e1
    subst e1
    exact ⟨p, hp, j, a, o, h1, h2, e2, e4, e3.foot a _ b h3⟩
  obtain ⟨x0, hx0⟩ := Option.isSome_iff_exists.1 hi
  obtain ⟨p0, hp0, hp0i, _⟩ := lookP_some hx0
  have key : ∀ {j o}, (packH σ ps i 0 h)[j]? = some (some o) → (j = i ∧ o = .pack σ (packR ps)) ∨ (j ≠ i ∧ o = .dead ∧ ∃ o', h[j]? = some (some o')) ∨ (j ≠ i ∧ (∀ p ∈ ps, σ[p.1]? ≠ some j) ∧ h[j]? = some (some o)) := fun {j o} e => by
    rw [packH_get, Nat.zero_add] at e
    cases ho : h[j]? with
    | none => rw [ho] at e; cases e
    | some q =>
      rw [ho] at e
      simp only [Option.map_some, Option.some.injEq] at e
      split at e
      · rename_i c
        simp only [Option.some.injEq] at e
        exact .inl ⟨c, e.symm⟩
      · rename_i c
        split at e
        · rename_i x hx
          simp only [Option.some.injEq] at e
          obtain ⟨p, hp, hpk, _⟩ := lookP_some hx
          obtain ⟨j', o', e1, e2, _⟩ := hf.get p hp
          rw [hpk] at e1
          simp only [Option.some.injEq] at e1
          subst e1
          exact .inr (.inl ⟨c, e.symm, o', ho.symm.trans e2⟩)
        · rename_i hx
          exact .inr (.inr ⟨c, lookP_none hx, by rw [← e]⟩)
  refine ⟨fun j => if j = i then F else φ j, ?_⟩
  exact
    { size := s.size
      env := s.env
      keep := s.keep
      dom := fun j a hja => by
        obtain ⟨o, ho⟩ := s.dom j a hja
        rw [packH_get, ho]
        simp only [Option.map_some, Option.some.injEq]
        split
        · exact ⟨_, rfl⟩
        · split
          · exact ⟨_, rfl⟩
          · exact ⟨_, rfl⟩
      named := fun j o ho => by
        rcases key ho with ⟨rfl, _⟩ | ⟨_, _, o', h1⟩ | ⟨_, _, h1⟩
        · obtain ⟨j', o', e1, e2, _⟩ := hf.get p0 hp0
          rw [hp0i] at e1
          simp only [Option.some.injEq] at e1
          subst e1
          exact s.named _ _ e2
        · exact s.named _ _ h1
        · exact s.named _ _ h1
      holds := fun j o a ho hja => by
        rcases key ho with ⟨rfl, rfl⟩ | ⟨_, rfl, _⟩ | ⟨hne, _, h1⟩
        · simp only [if_true]
          refine ⟨fun k => φ (sel σ h.length k), fun p hp => ?_, fun p hp q hq hne c c' b hc hc' hb hb' => ?_⟩
          · obtain ⟨j', o', e1, e2, e3, e4, e5⟩ := hf.get p hp
            obtain ⟨c, hc⟩ := s.named _ _ e2
            refine ⟨c, by rw [gA e1]; exact hc, ?_, fun b hb => ⟨p, hp, j', c, e1, hc, ?_⟩⟩
            · have := e3.holds (s.holds _ _ _ e2 hc)
              rw [gN]
              simp only [sel, e1] at this ⊢
              exact this
            · simp only [sel, e1] at hb
              exact hb
          · obtain ⟨j1, o1, e1, e2, e3, e4, _⟩ := hf.get p hp
            obtain ⟨j2, o2, f1, f2, f3, f4, _⟩ := hf.get q hq
            rw [gA e1] at hc
            rw [gA f1] at hc'
            simp only [sel, e1] at hb
            simp only [sel, f1] at hb'
            refine s.sep j1 j2 o1 o2 c c' b (fun e => hne ?_) e2 f2 hc hc' e4 (e3.foot _ _ _ hb) (f3.foot _ _ _ hb')
            exact congrArg Prod.fst (injP_ok hj p hp q hq (by rw [e1, f1, e]))
        · exact trivial
        · simp only [if_neg hne]
          exact s.holds j o a h1 hja
      bnd := fun j o a b ho hja hb => by
        rcases key ho with ⟨rfl, rfl⟩ | ⟨_, rfl, _⟩ | ⟨hne, _, h1⟩
        · simp only [if_true] at hb
          obtain ⟨p, _, j', a', o', _, h2, h3, _, h5⟩ := hFo hb
          exact s.bnd j' o' a' b h3 h2 h5
        · exact hb.elim
        · simp only [if_neg hne] at hb
          exact s.bnd j o a b h1 hja hb
      own := fun j o a b ho hja hr hb => by
        rcases key ho with ⟨rfl, rfl⟩ | ⟨_, rfl, _⟩ | ⟨hne, _, h1⟩
        · simp only [if_true] at hb
          obtain ⟨p, _, j', a', o', _, h2, h3, h4, h5⟩ := hFo hb
          exact s.own j' o' a' b h3 h2 h4 h5
        · cases hr
        · simp only [if_neg hne] at hb
          exact s.own j o a b h1 hja hr hb
      sep := fun j k oj ok aj ak b hne hoj hok haj hak hr hb => by
        rcases key hoj with ⟨rfl, rfl⟩ | ⟨_, rfl, _⟩ | ⟨hnj, hnj2, h1⟩
        · simp only [if_true] at hb
          obtain ⟨p, hp, j', a', o', g1, h2, h3, h4, h5⟩ := hFo hb
          rcases key hok with ⟨rfl, _⟩ | ⟨_, rfl, _⟩ | ⟨hnk, hnk2, k1⟩
          · exact absurd rfl hne
          · exact fun q => q
          · simp only [if_neg hnk]
            exact s.sep j' k o' ok a' ak b (fun e => hnk2 p hp (by rw [← e]; exact g1)) h3 k1 h2 hak h4 h5
        · cases hr
        · simp only [if_neg hnj] at hb
          rcases key hok with ⟨rfl, rfl⟩ | ⟨_, rfl, _⟩ | ⟨hnk, _, k1⟩
          · simp only [if_true]
            intro hb2
            obtain ⟨p, hp, j', a', o', g1, h2, h3, h4, h5⟩ := hFo hb2
            exact s.sep j j' oj o' aj a' b (fun e => hnj2 p hp (by rw [e]; exact g1)) h1 h3 haj h2 hr hb h5
          · exact fun q => q
          · simp only [if_neg hnk]
            exact s.sep j k oj ok aj ak b hne h1 k1 haj hak hr hb }
theorem entPack {n : Nat} {T : Tm} {H : SHeap} {D : List SV} (σ : List Nat) (ps : List (Nat × SObj)) (i : Nat) (hf : PFits (sel σ H.length) H σ ps) (hj : injP σ ps = true) (hi : (lookP σ ps i).isSome = true) :
  Ent n ⟨T, H, D⟩ ⟨T, packH σ ps i 0 H, D⟩ := by
 intro η φ w0 Ef w a hn hs hT hD
 obtain ⟨φ', s'⟩ := hs.pack hf hj hi
 exact ⟨η, φ', fun _ _ => rfl, by rw [packH_length]; exact hn, s', hT, hD⟩
def DeadP (h : SHeap) (σ : List Nat) (i : Nat) : List (Nat × SObj) → Prop
 | [] => True
 | p :: ps => (match σ[p.1]? with
  | some j => match Nat.beq j i with
   | true => True
   | false => match h[j]? with
    | some (some .dead) => True
    | _ => False
  | none => False) ∧ DeadP h σ i ps
theorem DeadP.get {h : SHeap} {σ : List Nat} {i : Nat} : ∀ {ps : List (Nat × SObj)}, DeadP h σ i ps → ∀ p ∈ ps, ∃ j, σ[p.1]? = some j ∧ (j = i ∨ h[j]? = some (some .dead))
 | [], _, p, hp => by cases hp
 | x :: ps, hd, p, hp => by
  obtain ⟨h1, h2⟩ := hd
  rcases List.mem_cons.1 hp with e | hp'
  ·subst e
   split at h1
   ·rename_i j hj
    split at h1
    ·rename_i hb
     exact ⟨j, hj, .inl (Nat.eq_of_beq_eq_true hb)⟩
    ·split at h1
     ·rename_i ho
      exact ⟨j, hj, .inr ho⟩
     ·exact h1.elim
   ·exact h1.elim
  ·exact h2.get p hp'
def unH (F : Nat → Nat) (σ : List Nat) (ps : List (Nat × SObj)) : Nat → SHeap → SHeap
 | _, [] => []
 | k, o :: h => (match lookP σ ps k with
  | some x => some (renO F x)
  | none => o) :: unH F σ ps (k + 1) h
theorem unH_length {F : Nat → Nat} {σ : List Nat} {ps : List (Nat × SObj)} : ∀ (h : SHeap) (k : Nat), (unH F σ ps k h).length = h.length
 | [], _ => rfl
 | o :: h, k => by simp [unH, unH_length h]
theorem unH_get {F : Nat → Nat} {σ : List Nat} {ps : List (Nat × SObj)} : ∀ (h : SHeap) (k j : Nat), (unH F σ ps k h)[j]? = (h[j]?).map fun o => match lookP σ ps (k + j) with
   | some x => some (renO F x)
   | none => o
 | [], k, j => by simp [unH]
 | o :: h, k, 0 => by simp [unH]
 | o :: h, k, j + 1 => by
  simp only [unH, List.getElem?_cons_succ]
  rw [unH_get h (k + 1) j, show k + 1 + j = k + (j + 1) by omega]
theorem Sat.unpack {η : Nam} {φ : Feet} {h : SHeap} {w0 w : World} {Ef : Nat → Prop} (s : Sat η φ h w0 Ef w) {σ : List Nat} {ps : List (Nat × SObj)} {i : Nat} (hi : h[i]? = some (some (.pack σ (packR ps)))) (hj : injP σ ps = true) (hil : (lookP σ ps i).isSome = true) (hd : DeadP h σ i ps) :
    ∃ φ', Sat η φ' (unH (sel σ h.length) σ ps 0 h) w0 Ef w := by
  have hfree : η h.length = none := s.free fun o => by rw [List.getElem?_eq_none (Nat.le_refl _)]; simp
  have gN := getN_map (σ := σ) hfree
  have gA : ∀ {k j}, σ[k]? = some j → getN (σ.map η) k = η j := fun {k j} e => by rw [gN]; simp only [sel, e]
  obtain ⟨ai, hai⟩ := s.named i _ hi
  obtain ⟨φ0, r1, r2⟩ : (packR ps).R (σ.map η) (φ i) w := s.holds i _ ai hi hai
  let φ' : Feet := fun j b => (∃ p ∈ ps, σ[p.1]? = some j ∧ φ0 p.1 b) ∨ ((∀ p ∈ ps, σ[p.1]? ≠ some j) ∧ φ j b)
  have e1 : ∀ p ∈ ps, ∀ j, σ[p.1]? = some j → φ' j = φ0 p.1 := fun p hp j hpj => by
    funext b
    refine propext ⟨?_, fun hb => .inl ⟨p, hp, hpj, hb⟩⟩
    rintro (⟨q, hq, hqj, hb⟩ | ⟨hn, _⟩)
    · have := injP_ok hj p hp q hq (hpj.trans hqj.symm)
      rw [this]
      exact hb
    · exact absurd hpj (hn p hp)
  have e2 : ∀ j, (∀ p ∈ ps, σ[p.1]? ≠ some j) → φ' j = φ j := fun j hn => by
    funext b
    refine propext ⟨?_, fun hb => .inr ⟨hn, hb⟩⟩
    rintro (⟨q, hq, hqj, _⟩ | ⟨_, hb⟩)
    · exact absurd hqj (hn q hq)
    · exact hb
  have key : ∀ {j o}, (unH (sel σ h.length) σ ps 0 h)[j]? = some (some o) → (∃ p ∈ ps, σ[p.1]? = some j ∧ o = renO (sel σ h.length) p.2) ∨ ((∀ p ∈ ps, σ[p.1]? ≠ some j) ∧ h[j]? = some (some o)) := fun {j o} e => by
    rw [unH_get, Nat.zero_add] at e
    cases ho : h[j]? with
    | none => rw [ho] at e; cases e
    | some q =>
      rw [ho] at e
      simp only [Option.map_some, Option.some.injEq] at e
      split at e
      · rename_i x hx
        simp only [Option.some.injEq] at e
        obtain ⟨p, hp, hpk, hx2⟩ := lookP_some hx
        exact .inl ⟨p, hp, hpk, by rw [hx2]; exact e.symm⟩
      · rename_i hx
        exact .inr ⟨lookP_none hx, by rw [← e]⟩
  obtain ⟨x0, hx0⟩ := Option.isSome_iff_exists.1 hil
  obtain ⟨p0, hp0, hp0i, _⟩ := lookP_some hx0
  have at' : ∀ p ∈ ps, ∀ j, σ[p.1]? = some j → ∃ o, h[j]? = some (some o) := fun p hp j hpj => by
    obtain ⟨j', h1, h2⟩ := hd.get p hp
    rw [hpj] at h1
    simp only [Option.some.injEq] at h1
    subst h1
    rcases h2 with rfl | h2
    · exact ⟨_, hi⟩
    · exact ⟨_, h2⟩
  have foot : ∀ p ∈ ps, ∀ j a b, σ[p.1]? = some j → η j = some a → (renO (sel σ h.length) p.2).foot a (φ' j) b → φ i b := fun p hp j a b hpj hja hb => by
    rw [renO_foot, e1 p hp j hpj] at hb
    obtain ⟨c, hc, _, hF⟩ := r1 p hp
    rw [gA hpj, hja] at hc
    simp only [Option.some.injEq] at hc
    subst hc
    exact hF b hb
  refine ⟨φ', ?_⟩
  exact
    { size := s.size
      env := s.env
      keep := s.keep
      dom := fun j a hja => by
        obtain ⟨o, ho⟩ := s.dom j a hja
        rw [unH_get, ho]
        simp only [Option.map_some, Option.some.injEq]
        split
        · exact ⟨_, rfl⟩
        · exact ⟨_, rfl⟩
      named := fun j o ho => by
        rcases key ho with ⟨p, hp, hpj, _⟩ | ⟨_, h1⟩
        · obtain ⟨o', h1⟩ := at' p hp j hpj
          exact s.named _ _ h1
        · exact s.named _ _ h1
      holds := fun j o a ho hja => by
        rcases key ho with ⟨p, hp, hpj, rfl⟩ | ⟨hn, h1⟩
        · obtain ⟨c, hc, hh, _⟩ := r1 p hp
          rw [gA hpj, hja] at hc
          simp only [Option.some.injEq] at hc
          subst hc
          rw [e1 p hp j hpj]
          exact (renO_holds gN.symm _ _ _ _).2 hh
        · rw [e2 j hn]
          exact s.holds j o a h1 hja
      bnd := fun j o a b ho hja hb => by
        rcases key ho with ⟨p, hp, hpj, rfl⟩ | ⟨hn, h1⟩
        · exact s.bnd i _ ai b hi hai (foot p hp j a b hpj hja hb)
        · rw [e2 j hn] at hb
          exact s.bnd j o a b h1 hja hb
      own := fun j o a b ho hja hr hb => by
        rcases key ho with ⟨p, hp, hpj, rfl⟩ | ⟨hn, h1⟩
        · exact s.own i _ ai b hi hai rfl (foot p hp j a b hpj hja hb)
        · rw [e2 j hn] at hb
          exact s.own j o a b h1 hja hr hb
      sep := fun j k oj ok aj ak b hne hoj hok haj hak hr hb => by
        rcases key hoj with ⟨p, hp, hpj, rfl⟩ | ⟨hnj, h1⟩
        · have hF := foot p hp j aj b hpj haj hb
          rcases key hok with ⟨q, hq, hqk, rfl⟩ | ⟨hnk, k1⟩
          · rw [renO_foot, e1 p hp j hpj] at hb
            rw [renO_foot, e1 q hq k hqk]
            refine r2 p hp q hq (fun e => hne ?_) aj ak b (by rw [gA hpj]; exact haj) (by rw [gA hqk]; exact hak) hb
            rw [e, hqk] at hpj
            exact (Option.some.inj hpj).symm
          · rw [e2 k hnk]
            refine s.sep i k _ ok ai ak b (fun e => ?_) hi k1 hai hak rfl hF
            subst e
            exact hnk p0 hp0 hp0i
        · rw [e2 j hnj] at hb
          rcases key hok with ⟨q, hq, hqk, rfl⟩ | ⟨hnk, k1⟩
          · intro hb2
            have hF := foot q hq k ak b hqk hak hb2
            refine s.sep j i oj _ aj ai b (fun e => ?_) h1 hi haj hai hr hb hF
            subst e
            exact hnj p0 hp0 hp0i
          · rw [e2 k hnk]
            exact s.sep j k oj ok aj ak b hne h1 k1 haj hak hr hb }
theorem entUnpack {n : Nat} {T : Tm} {H : SHeap} {D : List SV} (σ : List Nat) (ps : List (Nat × SObj)) (i : Nat) (hi : H[i]? = some (some (.pack σ (packR ps)))) (hj : injP σ ps = true) (hil : (lookP σ ps i).isSome = true) (hd : DeadP H σ i ps) :
  Ent n ⟨T, H, D⟩ ⟨T, unH (sel σ H.length) σ ps 0 H, D⟩ := by
 intro η φ w0 Ef w a hn hs hT hD
 obtain ⟨φ', s'⟩ := hs.unpack hi hj hil hd
 exact ⟨η, φ', fun _ _ => rfl, by rw [unH_length]; exact hn, s', hT, hD⟩
end Go.Sy
/-
 Sy33: a function that ranges over a function, and may panic behind the loop. No program is named.
-/
namespace Go.Sy
open Go

def endMK (E : Env) (rs : List ResultVar) (K : CE → SHeap → Prop) (px : Option SV) (s : St) (ob : List Prop) : Prop :=
 match s.D with
 | [.yld m] => match s.H[m]? with
  | some (some (.obj I)) => fcP ob fun ob => AllP ob ∧ (∀ o, I o → o = .deferred (some [])) ∧ fcL (s.H.set m (some .dead)) fun H => match px with
   | none => match resL E ⟨s.T, H, []⟩ rs with
    | some (vs, ob') => fcP ob' fun ob' => AllP ob' ∧ fcV (resOne vs) fun v => K (.ret v) H
    | none => False
   | some v => K (.panic v) H
  | _ => False
 | _ => False
def retKMK (E : Env) (rs : List ResultVar) (K : CE → SHeap → Prop) : KS := fun se s ob => match se with
 | .normal => endMK E rs K none s ob
 | .ret => endMK E rs K none s ob
 | .panic v => endMK E rs K (some v) s ob
 | _ => False
theorem retKMK_good (E : Env) (rs : List ResultVar) (K : CE → SHeap → Prop) : Good (retKMK E rs K) := by
 have key : ∀ px s ob, endMK E rs K px s ob → AllP ob := by
  intro px s ob h
  unfold endMK at h
  split at h
  ·split at h
   ·rw [fcP_eq] at h; exact h.1
   ·exact h.elim
  ·exact h.elim
 intro se s ob h
 unfold retKMK at h
 split at h
 ·exact key _ _ _ h
 ·exact key _ _ _ h
 ·exact key _ _ _ h
 ·exact h.elim
theorem callMK {E : Env} {P : Program} (hE : E.ok P) {f : Nat} {fn : Func} {c : Code} {args : List SV} {h : SHeap} {K : CE → SHeap → Prop} (hf : P.funcs[f]? = some fn) (hb : fn.body = some c)
  (hx : X E P none h.length c ⟨initT args fn.ntmps, h, []⟩ [] (retKMK E fn.results.toList fun ce h1 => ∃ ce' h2, K ce' h2 ∧ EntC h.length ce h1 ce' h2)) : CallP P f args h K := by
 refine CallP.ent ?_
 intro η φ w0 Ef w vs hs hd
 let KM := retKMK E fn.results.toList fun ce h1 => ∃ ce' h2, K ce' h2 ∧ EntC h.length ce h1 ce' h2
 have hc := X_ok hE c _ _ _ (fun se s => ∃ ob, KM se s ob) (retKMK_good E fn.results.toList _) (fun se s ob hk => ⟨ob, hk⟩) hx η η φ w0 Ef w { tmps := vs.toArray ++ Array.replicate (fn.ntmps - vs.toArray.size) undef, defers := [] } (Pin.refl _ _) (Nat.le_refl _) hs (initT_ok hd _) rfl
 refine calls_of_wpQ hf hb (wp_mono (wpIn_wide.1 hc) ?_)
 rintro e a w' ⟨se, s, η', φ', ⟨ob, k⟩, p1, p2, pe, p3, p4, p5⟩
 have main : ∀ (px : Option SV) (u : FrameMode), endMK E fn.results.toList (fun ce h1 => ∃ ce' h2, K ce' h2 ∧ EntC h.length ce h1 ce' h2) px s ob →
   ((px = none ∧ u = .returning) ∨ ∃ v xv, px = some v ∧ den η' v = some xv ∧ u = .panicking [{ v := xv, recovered := false }]) →
   LeavesQ P fn a.tmps (fun e w' => ∃ ce h1 η1 φ1, (∃ ce' h2, K ce' h2 ∧ EntC h.length ce h1 ce' h2) ∧ h.length ≤ h1.length ∧ Pin h.length η η1 ∧ cRel η1 ce e ∧ Sat η1 φ1 h1 w0 Ef w') a.defers u w' := by
  intro px u hk hu
  unfold endMK at hk
  split at hk
  ·rename_i m hD
   split at hk
   ·rename_i I hm
    rw [fcP_eq, fcL_eq] at hk
    obtain ⟨_, hI, hk⟩ := hk
    rw [hD] at p5
    obtain ⟨ad, ds', had, hds, hds'⟩ := drel_mark p5
    have hnil : ds' = [] := by simpa [DRel] using hds'.symm
    subst hnil
    obtain ⟨hw, hs'⟩ := p3.take hm hI had
    rw [hds]
    refine .inr ⟨ad.1, _, _, _, rfl, rfl, by rcases hu with ⟨_, rfl⟩ | ⟨_, _, _, _, rfl⟩ <;> simp, run_takeDeferred hw, ?_⟩
    rcases hu with ⟨rfl, rfl⟩ | ⟨v, xv, rfl, hxv, rfl⟩
    ·simp only at hk
     split at hk
     ·rename_i us ob' hres
      rw [fcP_eq, fcV_eq] at hk
      obtain ⟨u, h1, h2⟩ := run_results (P := P) (s := ⟨s.T, s.H.set m (some .dead), []⟩) hE hs' p4 hres hk.1
      exact ⟨u, h2, .ret (resOne us), _, η', φ', hk.2, by simpa using p2, p1, ⟨u, h1, rfl⟩, hs'⟩
     ·exact hk.elim
    ·exact ⟨.panic v, _, η', φ', hk, by simpa using p2, p1, ⟨xv, hxv, rfl⟩, hs'⟩
   ·exact hk.elim
  ·exact hk.elim
 show bodyPostQ P fn _ e a w'
 have k : retKMK E fn.results.toList (fun ce h1 => ∃ ce' h2, K ce' h2 ∧ EntC h.length ce h1 ce' h2) se s ob := k
 cases se with
 | normal =>
  have pe : e = .normal := pe
  subst pe
  exact main none _ k (.inl ⟨rfl, rfl⟩)
 | ret =>
  have pe : e = .ret := pe
  subst pe
  exact main none _ k (.inl ⟨rfl, rfl⟩)
 | panic sv =>
  obtain ⟨u, hu, rfl⟩ := pe
  exact main (some sv) _ k (.inr ⟨sv, u, rfl, hu, rfl⟩)
 | _ => exact k.elim
end Go.Sy
/-
 From a contract to the statement's world: a world whose blocks are only read.
-/
namespace Go.Sy
open Go

def roO : SObj → Bool
 | .roc _ => true
 | .roa .. => true
 | .glob .. => true
 | _ => false
theorem roO_rw {o : SObj} (h : roO o = true) : o.rw = false := by cases o <;> first | rfl | cases h
theorem roO_bnd {o : SObj} (h : roO o = true) {η : Nam} {a : Nat × Nat} {F : Nat → Prop} {w : World} (hh : o.holds η a F w) {b : Nat} (hf : o.foot a F b) : b < w.heap.size := by
 have aux : ∀ {ob : Obj}, w.heap[a.1]? = some ob → a.1 = b → b < w.heap.size := fun e e' => by
  subst e'
  rcases Nat.lt_or_ge a.1 w.heap.size with h | h
  ·exact h
  ·rw [Array.getElem?_eq_none h] at e
   cases e
 cases o <;> first | cases h | skip
 all_goals simp only [SObj.holds, SObj.foot] at hh hf
 ·obtain ⟨c, T, fz, vs, h1, _⟩ := hh
  exact aux h1 hf
 ·obtain ⟨c, T, fz, h1, _⟩ := hh
  exact aux h1 hf
 ·obtain ⟨_, c, T, fz, vs, h1, _⟩ := hh
  exact aux h1 hf

theorem satRo {h : SHeap} {W : World} (av : List (Nat × Nat)) (hl : av.length = h.length) (ho : ∀ (i : Nat) x, h[i]? = some x → ∃ o, x = some o ∧ roO o = true)
  (hh : ∀ (i : Nat) o a, h[i]? = some (some o) → av[i]? = some a → o.holds (fun j => av[j]?) a (fun _ => False) W) :
  Sat (fun j => av[j]?) (fun _ _ => False) h W (fun _ => False) W where
 size := Nat.le_refl _
 env := SameEnv.refl W
 keep := fun _ _ _ => rfl
 dom := fun i a e => by
  have hi : i < h.length := by
   rcases Nat.lt_or_ge i av.length with h1 | h1
   ·omega
   ·have e' : av[i]? = some a := e
    rw [List.getElem?_eq_none h1] at e'
    cases e'
  obtain ⟨o, h1, h2⟩ := ho i _ (List.getElem?_eq_getElem hi)
  exact ⟨o, by rw [List.getElem?_eq_getElem hi, h1]⟩
 named := fun i o e => by
  have hi : i < av.length := by
   rcases Nat.lt_or_ge i h.length with h1 | h1
   ·omega
   ·rw [List.getElem?_eq_none h1] at e
    cases e
  exact ⟨_, List.getElem?_eq_getElem hi⟩
 holds := fun i o a e e' => hh i o a e e'
 bnd := fun i o a b e e' hf => by
  obtain ⟨o', h1, h2⟩ := ho i _ e
  cases h1
  exact roO_bnd h2 (hh i o a e e') hf
 own := fun i o a b e _ hr _ => by
  obtain ⟨o', h1, h2⟩ := ho i _ e
  cases h1
  rw [roO_rw h2] at hr
  cases hr
 sep := fun i _ o _ _ _ _ _ e _ _ _ hr => by
  obtain ⟨o', h1, h2⟩ := ho i _ e
  cases h1
  rw [roO_rw h2] at hr
  cases hr

theorem keptOf {η : Nam} {φ : Feet} {h : SHeap} {W W' : World} (hs : Sat η φ h W (fun _ => False) W') (may : MemPlace → Prop) : W.keptBut W' may := by
 refine ⟨hs.env.1, hs.env.2, fun i hi => ?_⟩
 rw [hs.keep i hi (fun hx => hx)]
 cases W.heap[i]? with
 | none => exact rfl
 | some o =>
  cases o <;> first | exact rfl | exact ⟨rfl, rfl, rfl, fun _ _ => rfl⟩ | exact Or.inr ⟨rfl, rfl⟩

theorem CallP.world {P : Program} {f : FuncId} {args : List SV} {h h' : SHeap} {v : SV} (hc : CallP P f args h (Ret v h')) {η : Nam} {φ : Feet} {W : World} (hs : Sat η φ h W (fun _ => False) W)
  {vs : List Value} (hd : denL η args = some vs) {u : Value} (hu : ∀ η', den η' v = some u) :
  Calls P f vs.toArray W fun e W' => e = .returned u ∧ W.heap.size ≤ W'.heap.size ∧ (∀ b, b < W.heap.size → W'.heap[b]? = W.heap[b]?) ∧ ∀ may, W.keptBut W' may := by
 refine (hc η φ W (fun _ => False) W vs hs hd).mono ?_
 rintro e W' ⟨ce, h'', η', φ', ⟨rfl, rfl⟩, _, _, hr, hs'⟩
 obtain ⟨u', h1, rfl⟩ := hr
 rw [hu η'] at h1
 cases h1
 exact ⟨rfl, hs'.size, fun b hb => hs'.keep b hb (fun hx => hx), fun may => keptOf hs' may⟩

end Go.Sy
