/-
  Parts: R5, R6, R7, R8, B16m.
-/
import Derived.Test.YtioajogaghgipaaN25
import Derived.Test.YtioajogaghgipaaN20
set_option linter.unusedVariables false
/-
 Contract of the document: all truths, or why there is none.
-/
namespace Go.Proofs.Ytioajogaghgipaa
open Go Go.Sy Tic
set_option linter.unusedSimpArgs false
set_option maxRecDepth 100000
set_option maxHeartbeats 4000000
attribute [local irreducible] CallP CodeP Ent YieldP
set_option maxHeartbeats 16000000
-- fast: YtioajogaghgipaaDd

def KT (t : TK) (W : List (List (Int × Int))) : CE → SHeap → Prop := fun ce h' => ∃ (s : Bool) (cO : Nat) (cp cq : Nat → Nat), (t.n = 0 → ∀ k, cp k = 0 ∧ cq k = 0) ∧ (s = false → W = []) ∧ (s = true → W.length ≤ cO ∧ cO ≤ 9223372036854775807) ∧
 ce = .ret (match s with | true => .slice 1 2 0 W.length cO | false => .snil) ∧ h' = (match s with
  | true => [some (.roa 5 t.n (TF t)), some (.arr 2 W.length cO (rwsT 2 t.n cp cq)), some (poolT t.n W)]
  | false => [some (.roa 5 t.n (TF t))])
theorem t111y {t : TK} (hv : t.Valid) (hlen : (t.trl).length ≤ 1000000) : CallP Try.prog 111 [TA t, .agg [.snil, .snil], .snil] (TH t) (KT t t.trl) := by
 by_cases h0 : t.n = 0
 ·have e : t.trl = [[]] := by unfold TK.trl; rw [h0]; rfl
  rw [e]
  have hc : decide (((0 : Nat) : Int) = ((t.n : Nat) : Int)) = true := decide_eq_true (by omega)
  refine callK (E := E) E_ok Try.func111 rfl ?_
  refine And.intro ?_ (And.intro (fun hx => ?_) (fun hx => ?_))
  ·(repeat' first|exact aq|refine aN ?_ ?_|exact trivial)
  ·(repeat' first|exact aq|refine aN ?_ ?_|exact trivial)
   all_goals first | exact Nat.le_refl _ | decide | exact one1P rfl | (show 1 * 48 ≤ 140737488355328; omega) | skip
   intro c hc1 hc2
   (repeat' first|exact aq|refine aN ?_ ?_|exact trivial)
   refine ⟨.ret (.slice 1 2 0 1 c), [some (.roa 5 t.n (TF t)), some (.arr 2 1 c (rwsT 2 t.n (fun _ => 0) fun _ => 0)), some (poolT t.n [[]])], ⟨true, c, fun _ => 0, fun _ => 0, fun _ k => ⟨rfl, rfl⟩, fun h => Bool.noConfusion h, fun _ => ⟨hc1, hc2⟩, rfl, rfl⟩, ?_⟩
   refine Ent.trans (t := ⟨[some (none, .slice 1 2 0 1 c)], [some (.roa 5 t.n (TF t)), some (.arr 2 1 c fun _ => [.snil, .snil])], []⟩) ?_ ?_
   ·refine ent_tau [0, 4] ⟨?_, by (repeat' first|exact tm|refine aN ?_ ?_), rfl⟩
    (repeat' first|exact fp|refine aN ?_ ?_)
    exact one1P' rfl
   ·exact entNil (o := 1) (np := 2) (go' := rwsT 2 t.n (fun _ => 0) fun _ => 0) rfl (fun _ => t.n) (pgT [[]]) (fun _ _ => h0) (fun η hη k hk => by
     obtain rfl : k = 0 := Nat.lt_one_iff.1 hk
     have hη : η 2 = some (0, 0) := hη
     simp only [rwsT, denL, den, hη, Option.bind_some, padr_zero, rowV, h0, and_self, if_true])
  ·exact absurd (show ((0 : Nat) : Int) = ((t.n : Nat) : Int) by omega) (of_decide_eq_false hx)
 ·refine CallP.ent ((CallP.pre ?_ (t111z hv (by omega) hlen)).mono ?_)
  ·refine entTmR (T := argT [TA t, .agg [.snil, .snil], .snil]) (Ent.trans (Ent.trans (entAlias (i := 0) rfl 1 (XB (ofL []))) (entAlias (i := 0) rfl 1 (XD (ofL [])))) (t := ⟨argT [TA t, .agg [.snil, .snil], .snil], [some (.roa 5 t.n (TF t)), some (.roa 1 0 (XB (ofL []))), some (.roa 1 0 (XD (ofL [])))], []⟩) ?_) ?_
   ·exact ent_tau [0, 1, 2, 0, 0] ⟨by (repeat' first|exact fp|refine aN ?_ ?_), by (repeat' first|exact tm|refine aN ?_ ?_), rfl⟩
   ·refine ⟨rfl, fun _ => rfl, rfl, fun η => by simp [den, denL], rfl, fun _ => rfl, trivial⟩
  ·rintro ce h' ⟨s, cO, cp, cq, _, k2, k3, rfl, rfl⟩
   cases s with
   | true =>
    refine ⟨.ret (.slice 1 2 0 t.trl.length cO), [some (.roa 5 t.n (TF t)), some (.arr 2 t.trl.length cO (rwsT 2 t.n cp cq)), some (poolT t.n t.trl)], ⟨true, cO, cp, cq, fun h => absurd h h0, k2, k3, rfl, rfl⟩, ?_⟩
    exact ent_tau [0, 5, 6] ⟨by (repeat' first|exact fp|refine aN ?_ ?_), by (repeat' first|exact tm|refine aN ?_ ?_), rfl⟩
   | false =>
    refine ⟨.ret .snil, [some (.roa 5 t.n (TF t))], ⟨false, cO, cp, cq, fun h => absurd h h0, k2, k3, rfl, rfl⟩, ?_⟩
    exact ent_tau [0] ⟨by (repeat' first|exact fp|refine aN ?_ ?_), by (repeat' first|exact tm|refine aN ?_ ?_), rfl⟩
theorem t92 {t : TK} (hv : t.Valid) (hlen : (t.trl).length ≤ 1000000) : CallP Try.prog 92 [TA t] (TH t) (KT t t.trl) := by
 refine callK (E := E) E_ok Try.func92 rfl ?_
 (repeat' first|exact aq|refine aN ?_ ?_|exact trivial)
 refine CallP.frameH (t111y hv hlen) [0] (by (repeat' first|exact fp|refine aN ?_ ?_)) rfl ?_
 rintro ce h' ⟨s, cO, cp, cq, k1, k2, k3, rfl, rfl⟩
 cases s with
 | true =>
  refine ⟨rfl, ?_⟩
  (repeat' first|exact aq|refine aN ?_ ?_|exact trivial)
  refine ⟨.ret (.slice 1 2 0 t.trl.length cO), [some (.roa 5 t.n (TF t)), some (.arr 2 t.trl.length cO (rwsT 2 t.n cp cq)), some (poolT t.n t.trl)], ⟨true, cO, cp, cq, k1, k2, k3, rfl, rfl⟩, ?_⟩
  exact ent_tau [0, 2, 3] ⟨by (repeat' first|exact fp|refine aN ?_ ?_), by (repeat' first|exact tm|refine aN ?_ ?_), rfl⟩
 | false =>
  refine ⟨rfl, ?_⟩
  (repeat' first|exact aq|refine aN ?_ ?_|exact trivial)
  refine ⟨.ret .snil, [some (.roa 5 t.n (TF t))], ⟨false, cO, cp, cq, k1, k2, k3, rfl, rfl⟩, ?_⟩
  exact ent_tau [0] ⟨by (repeat' first|exact fp|refine aN ?_ ?_), by (repeat' first|exact tm|refine aN ?_ ?_), rfl⟩
def KO (t : TK) (W : List (List (Int × Int))) : CE → SHeap → Prop := fun ce h' => ∃ (cO : Nat) (cp cq : Nat → Nat), (t.n = 0 → ∀ k, cp k = 0 ∧ cq k = 0) ∧ (W.length ≤ cO ∧ cO ≤ 9223372036854775807) ∧
 ce = .ret (.tup [.slice 1 2 0 W.length cO, .int .i64 0]) ∧ h' = [some (.roa 5 t.n (TF t)), some (.arr 2 W.length cO (rwsT 2 t.n cp cq)), some (poolT t.n W)]
theorem t53o {t : TK} (hv : t.Valid) (hlen : (t.trl).length ≤ 1000000) (hne : t.trl ≠ []) : CallP Try.prog 53 [TA t, .bool true] (TH t) (KO t t.trl) := by
 have c40 := t40 t (by have := hv.2.1; omega)
 rw [vb_yes hv] at c40
 refine callK (E := E) E_ok Try.func53 rfl ?_
 (repeat' first|exact aq|refine aN ?_ ?_|exact trivial)
 refine c40.use [0] ?_ (by (repeat' first|exact fp|refine aN ?_ ?_)) rfl
 all_goals (repeat' first|exact aq|refine aN ?_ ?_|exact trivial)
 all_goals first | exact dd | skip
 all_goals intro h1
 all_goals first | exact absurd h1 (by decide) | (cases h1; done) | skip
 all_goals (repeat' first|exact aq|refine aN ?_ ?_|exact trivial)
 all_goals first | exact dd | skip
 all_goals intro h2
 all_goals first | exact absurd h2 (by decide) | (cases h2; done) | skip
 (repeat' first|exact aq|refine aN ?_ ?_|exact trivial)
 refine CallP.frameH (t92 hv hlen) [0] (by (repeat' first|exact fp|refine aN ?_ ?_)) rfl ?_
 rintro ce h' ⟨s, cO, cp, cq, k1, k2, k3, rfl, rfl⟩
 cases s with
 | true =>
  have hl : 0 < t.trl.length := List.length_pos_iff.2 hne
  have hd : decide (((t.trl.length : Nat) : Int) = 0) = false := decide_eq_false (by omega)
  refine ⟨rfl, ?_⟩
  all_goals (repeat' first|exact aq|refine aN ?_ ?_|exact trivial)
  all_goals first | exact dd | skip
  all_goals intro h3
  all_goals first | (exfalso; (try rw [hd] at h3); exact Bool.noConfusion (show true = false from h3)) | (exfalso; (try rw [hd] at h3); exact Bool.noConfusion (show false = true from h3)) | skip
  (repeat' first|exact aq|refine aN ?_ ?_|exact trivial)
  refine ⟨.ret (.tup [.slice 1 2 0 t.trl.length cO, .int .i64 0]), [some (.roa 5 t.n (TF t)), some (.arr 2 t.trl.length cO (rwsT 2 t.n cp cq)), some (poolT t.n t.trl)], ⟨cO, cp, cq, k1, k3 rfl, rfl, rfl⟩, ?_⟩
  exact ent_tau [0, 2, 3] ⟨by (repeat' first|exact fp|refine aN ?_ ?_), by (repeat' first|exact tm|refine aN ?_ ?_), rfl⟩
 | false => exact absurd (k2 rfl) hne
theorem t53c {t : TK} (hv : t.Valid) (he : t.trl = []) : CallP Try.prog 53 [TA t, .bool true] (TH t) (Ret (.tup [.snil, .int .i64 10]) (TH t)) := by
 have c40 := t40 t (by have := hv.2.1; omega)
 rw [vb_yes hv] at c40
 refine callR (E := E) E_ok Try.func53 rfl ?_
 (repeat' first|exact aq|refine aN ?_ ?_|exact trivial)
 refine c40.use [0] ?_ (by (repeat' first|exact fp|refine aN ?_ ?_)) rfl
 all_goals (repeat' first|exact aq|refine aN ?_ ?_|exact trivial)
 all_goals first | exact dd | skip
 all_goals intro h1
 all_goals first | exact absurd h1 (by decide) | (cases h1; done) | skip
 all_goals (repeat' first|exact aq|refine aN ?_ ?_|exact trivial)
 all_goals first | exact dd | skip
 all_goals intro h2
 all_goals first | exact absurd h2 (by decide) | (cases h2; done) | skip
 (repeat' first|exact aq|refine aN ?_ ?_|exact trivial)
 refine CallP.frameH (t92 hv (by rw [he]; decide)) [0] (by (repeat' first|exact fp|refine aN ?_ ?_)) rfl ?_
 rw [he]
 rintro ce h' ⟨s, cO, cp, cq, k1, k2, k3, rfl, rfl⟩
 cases s with
 | true =>
  refine ⟨rfl, ?_⟩
  all_goals (repeat' first|exact aq|refine aN ?_ ?_|exact trivial)
  all_goals first | exact dd | skip
  all_goals intro h3
  all_goals first | exact absurd h3 (by decide) | (cases h3; done) | skip
  (repeat' first|exact aq|refine aN ?_ ?_|exact trivial)
  exact ent_tau [0] ⟨by (repeat' first|exact fp|refine aN ?_ ?_), by (repeat' first|exact tm|refine aN ?_ ?_), rfl⟩
 | false =>
  refine ⟨rfl, ?_⟩
  all_goals (repeat' first|exact aq|refine aN ?_ ?_|exact trivial)
  all_goals first | exact dd | skip
  all_goals intro h3
  all_goals first | exact absurd h3 (by decide) | (cases h3; done) | skip
  (repeat' first|exact aq|refine aN ?_ ?_|exact trivial)
  exact ent_tau [0] ⟨by (repeat' first|exact fp|refine aN ?_ ?_), by (repeat' first|exact tm|refine aN ?_ ?_), rfl⟩
theorem t53n {t : TK} (hn : t.n ≤ 1000000) (hv : ¬ t.Valid) (b : Bool) : CallP Try.prog 53 [TA t, .bool b] (TH t) (Ret (.tup [.snil, .int .i64 1]) (TH t)) := by
 have c40 := t40 t (by omega)
 rw [vb_no hv] at c40
 refine callR (E := E) E_ok Try.func53 rfl ?_
 (repeat' first|exact aq|refine aN ?_ ?_|exact trivial)
 refine c40.use [0] ?_ (by (repeat' first|exact fp|refine aN ?_ ?_)) rfl
 all_goals (repeat' first|exact aq|refine aN ?_ ?_|exact trivial)
 all_goals first | exact dd | skip
 all_goals intro h1
 all_goals first | exact absurd h1 (by decide) | (cases h1; done) | skip
 (repeat' first|exact aq|refine aN ?_ ?_|exact trivial)
 exact ent_tau [0] ⟨by (repeat' first|exact fp|refine aN ?_ ?_), by (repeat' first|exact tm|refine aN ?_ ?_), rfl⟩
end Go.Proofs.Ytioajogaghgipaa
/-
 Rows of a pool, whether nil or not, as arguments.
-/
namespace Go.Proofs.Ytioajogaghgipaa
open Go Go.Sy Tic

theorem rowA {P : Program} {f : FuncId} {args : List SV} {args' : Bool → List SV} {h : SHeap} {K : CE → SHeap → Prop} {j i np sz0 m0 : Nat} {len : Nat → Nat} {get : Nat → Nat → Int} {get0 : Nat → List SV} (hj : h[j]? = some (some (.pool false np len get))) (hi : h[i]? = some (some (.roa sz0 m0 get0))) (k : Nat) (hk : k < np)
  (ha : ∀ (η : Nam) (b : Bool), (b = false → len k = 0) → (∀ l c, (b = true ∨ (l = 0 ∧ c = 0)) → den η (.row j k l c) = den η (.osl b h.length 1 l c)) → denL η (args' b) = denL η args)
  (hc : ∀ b : Bool, CallP P f (args' b) (h ++ [some (.roa 1 (len k) fun m => [.int .i64 (get k m)])]) K) : CallP P f args h K := by
 intro η φ w0 Ef w vs hs hd
 obtain ⟨aj, haj⟩ := hs.named j _ hj
 have fin : ∀ {η' : Nam} {φ' : Feet} {b : Bool}, (∀ x, x < h.length → η' x = η x) → Sat η' φ' (h ++ [some (.roa 1 (len k) fun m => [.int .i64 (get k m)])]) w0 Ef w → denL η' (args' b) = some vs →
   Calls P f vs.toArray w (fun e w' => ∃ ce h1 η1 φ1, K ce h1 ∧ h.length ≤ h1.length ∧ Pin h.length η η1 ∧ cRel η1 ce e ∧ Sat η1 φ1 h1 w0 Ef w') := by
  intro η' φ' b p1 p3 p4
  refine (hc b η' φ' w0 Ef w vs p3 p4).mono ?_
  rintro e w' ⟨ce, h1, η1, φ1, k1, q1, q2, q3⟩
  rw [List.length_append, List.length_singleton] at q1 q2
  exact ⟨ce, h1, η1, φ1, k1, by omega, fun x hx => (q2 x (by omega)).trans (p1 x hx), q3⟩
 rcases hs.holds j _ aj hj haj k hk with ⟨h1, h0⟩ | ⟨b, Ty, c, h1, h3, h4⟩
 ·obtain ⟨ad, had⟩ := hs.named i _ hi
  obtain ⟨c, Ty, fz, hh, _⟩ := hs.holds i _ ad hi had
  have hs2 := hs.alias hi had ⟨c, Ty, fz, hh⟩ rfl rfl 1 fun m => [.int .i64 (get k m)]
  have le : η.le (fun j => if j = h.length then some ad else η j) := fun j b e => by
   have hj : j < h.length := by
    obtain ⟨o1, h1⟩ := hs.dom j b e
    rcases Nat.lt_or_ge j h.length with h2 | h2
    ·exact h2
    ·rw [List.getElem?_eq_none h2] at h1; cases h1
   show (if j = h.length then some ad else η j) = some b
   rw [if_neg (by omega)]
   exact e
  rw [← h0] at hs2
  refine fin (b := false) (fun x hx => if_neg (by omega)) hs2 ?_
  rw [ha _ false (fun _ => h0) fun l c hlc => ?_]
  ·exact denL_mono le _ _ hd
  ·rcases hlc with e | ⟨rfl, rfl⟩
   ·cases e
   ·simp only [den, le j aj haj, Option.bind_some, h1, rowV]
 ·have ft : ∀ x, x = b → (SObj.pool false np len get).foot aj (φ j) x := fun x e => ⟨k, by rw [e]; exact h1⟩
  obtain ⟨hle, hs2⟩ := hs.plus (o' := .roa 1 (len k) fun m => [.int .i64 (get k m)]) (a' := (b, 0)) (fun _ => False)
   ⟨c, Ty, (0, 0), h3, fun m hm => ⟨[.int .i64 (get k m)], rfl, rfl, fun i v hi => by
    cases i with
    | zero => simp at hi; subst hi; simpa using h4 m hm
    | succ i => simp at hi⟩⟩
   (fun x hx => hs.bnd j _ aj x hj haj (ft x (Eq.symm hx))) (fun hr => by cases hr) (fun hr => by cases hr)
   (fun i oi ai x hi hai hr hfx hx => by
    by_cases hij : i = j
    ·subst hij; rw [hj] at hi; cases hi; cases hr
    ·exact hs.sep i j oi _ ai aj x hij hi hj hai haj hr hfx (ft x (Eq.symm hx)))
  refine fin (b := true) (fun x hx => Nam.put_other η _ (by omega)) hs2 ?_
  rw [ha _ true (fun e => Bool.noConfusion e) fun l c _ => ?_]
  ·exact denL_mono hle _ _ hd
  ·simp only [den, hle j aj haj, Option.bind_some, h1, rowV, Nam.put_same, Option.map_some]
end Go.Proofs.Ytioajogaghgipaa
/-
 Questions of the document to a truth that is a row of a pool.
-/
namespace Go.Proofs.Ytioajogaghgipaa
open Go Go.Sy Tic
set_option linter.unusedSimpArgs false
set_option maxRecDepth 100000
set_option maxHeartbeats 4000000
attribute [local irreducible] CallP CodeP Ent YieldP
set_option maxHeartbeats 16000000
-- fast: YtioajogaghgipaaDd

theorem cons_a {η : Nam} {x x' : SV} {l : List SV} (h : den η x = den η x') : denL η (x :: l) = denL η (x' :: l) := by rw [denL, denL, h]
theorem cons_b {η : Nam} {x : SV} {l l' : List SV} (h : denL η l = denL η l') : denL η (x :: l) = denL η (x :: l') := by rw [denL, denL, h]
theorem agg_a {η : Nam} {x x' y : SV} (h : den η x = den η x') : den η (.agg [x, y]) = den η (.agg [x', y]) := congrArg (Option.map _) (cons_a h)
theorem agg_b {η : Nam} {x y y' : SV} (h : den η y = den η y') : den η (.agg [x, y]) = den η (.agg [x, y']) := congrArg (Option.map _) (cons_b (cons_a h))
theorem hz_or {n c : Nat} {b : Bool} (hb : b = false → n = 0) (hz : n = 0 → c = 0) : b = true ∨ (n = 0 ∧ c = 0) := by
 cases b with
 | true => exact .inl rfl
 | false => exact .inr ⟨hb rfl, hz (hb rfl)⟩
theorem rowP1 {σ : Nat → Nat} {W : List (List (Int × Int))} {k n : Nat} : ∀ m, m < n → (fun m => [SV.int .i64 (pgT W (2 * k) m)]) m = renL σ (XB (ofL (W.getD k [])) m) := fun m _ => by
 show [SV.int .i64 (pgT W (2 * k) m)] = _
 unfold pgT XB
 rw [if_pos (by omega), show 2 * k / 2 = k by omega]
 rfl
theorem rowP2 {σ : Nat → Nat} {W : List (List (Int × Int))} {k n : Nat} : ∀ m, m < n → (fun m => [SV.int .i64 (pgT W (2 * k + 1) m)]) m = renL σ (XD (ofL (W.getD k [])) m) := fun m _ => by
 show [SV.int .i64 (pgT W (2 * k + 1) m)] = _
 unfold pgT XD
 rw [if_neg (by omega), show (2 * k + 1) / 2 = k by omega]
 rfl
def HWp (t : TK) (W : List (List (Int × Int))) : SHeap := [some (.roa 5 t.n (TF t)), some (.pool false (2 * W.length) (fun _ => t.n) (pgT W))]

theorem t80r (t : TK) (W : List (List (Int × Int))) (k : Nat) (hk : k < W.length) (ca cb : Nat) (hz : t.n = 0 → ca = 0 ∧ cb = 0) (hn : t.n ≤ 1000000) (hx : Day t.n (ofL (W.getD k []))) :
  CallP Try.prog 80 [.agg [.row 1 (2 * k) t.n ca, .row 1 (2 * k + 1) t.n cb]] (HWp t W) (Ret (.int .i64 (TK.longest (ofL (W.getD k [])) t.n)) (HWp t W)) := by
 refine CallP.entR (h1 := HWp t W ++ [some (.roa 1 t.n fun m => [.int .i64 (pgT W (2 * k) m)])] ++ [some (.roa 1 t.n fun m => [.int .i64 (pgT W (2 * k + 1) m)])]) (v := .int .i64 (TK.longest (ofL (W.getD k [])) t.n)) ?_ ?_
 ·refine rowA (j := 1) (i := 0) (args' := fun bb => [.agg [.osl bb 2 1 t.n ca, .row 1 (2 * k + 1) t.n cb]]) rfl rfl (2 * k) (by omega) (fun η bb hbb hq => ?_) fun b1 => ?_
  ·exact cons_a (agg_a (hq t.n ca (hz_or hbb fun e => (hz e).1)).symm)
  refine rowA (j := 1) (i := 0) (args' := fun bb => [.agg [.osl b1 2 1 t.n ca, .osl bb 3 1 t.n cb]]) rfl rfl (2 * k + 1) (by omega) (fun η bb hbb hq => ?_) fun b2 => ?_
  ·exact cons_a (agg_b (hq t.n cb (hz_or hbb fun e => (hz e).2)).symm)
  refine (t80 ⟨b1, ca, b2, cb⟩ t.n hn (ofL (W.getD k [])) hx).use [2, 3] ?_ ?_ rfl
  ·exact ⟨rfl, rfl⟩
  ·(repeat' first|exact fp|refine aN ?_ ?_)
   all_goals first | exact rowP1 | exact rowP2
 ·exact ent_tau [0, 1] ⟨by (repeat' first|exact fp|refine aN ?_ ?_), by (repeat' first|exact tm|refine aN ?_ ?_), rfl⟩
theorem t88r (t : TK) (W : List (List (Int × Int))) (k : Nat) (hk : k < W.length) (ca cb : Nat) (hz : t.n = 0 → ca = 0 ∧ cb = 0) (hn : t.n ≤ 1000000) :
  CallP Try.prog 88 [.agg [.row 1 (2 * k) t.n ca, .row 1 (2 * k + 1) t.n cb]] (HWp t W) (Ret (.int .i64 (cntN (fun i => overs t.n (ofL (W.getD k [])) i) t.n : Nat)) (HWp t W)) := by
 refine CallP.entR (h1 := HWp t W ++ [some (.roa 1 t.n fun m => [.int .i64 (pgT W (2 * k) m)])] ++ [some (.roa 1 t.n fun m => [.int .i64 (pgT W (2 * k + 1) m)])]) (v := .int .i64 (cntN (fun i => overs t.n (ofL (W.getD k [])) i) t.n : Nat)) ?_ ?_
 ·refine rowA (j := 1) (i := 0) (args' := fun bb => [.agg [.osl bb 2 1 t.n ca, .row 1 (2 * k + 1) t.n cb]]) rfl rfl (2 * k) (by omega) (fun η bb hbb hq => ?_) fun b1 => ?_
  ·exact cons_a (agg_a (hq t.n ca (hz_or hbb fun e => (hz e).1)).symm)
  refine rowA (j := 1) (i := 0) (args' := fun bb => [.agg [.osl b1 2 1 t.n ca, .osl bb 3 1 t.n cb]]) rfl rfl (2 * k + 1) (by omega) (fun η bb hbb hq => ?_) fun b2 => ?_
  ·exact cons_a (agg_b (hq t.n cb (hz_or hbb fun e => (hz e).2)).symm)
  refine (t88 ⟨b1, ca, b2, cb⟩ t.n hn (ofL (W.getD k []))).use [2, 3] ?_ ?_ rfl
  ·exact ⟨rfl, rfl⟩
  ·(repeat' first|exact fp|refine aN ?_ ?_)
   all_goals first | exact rowP1 | exact rowP2
 ·exact ent_tau [0, 1] ⟨by (repeat' first|exact fp|refine aN ?_ ?_), by (repeat' first|exact tm|refine aN ?_ ?_), rfl⟩
theorem t85r (t : TK) (W : List (List (Int × Int))) (k : Nat) (hk : k < W.length) (ca cb : Nat) (hz : t.n = 0 → ca = 0 ∧ cb = 0) (hn : t.n ≤ 1000000) (hh : 0 ≤ t.huts ∧ t.huts ≤ 1000) (hx : Day t.n (ofL (W.getD k []))) :
  CallP Try.prog 85 [TA t, .agg [.row 1 (2 * k) t.n ca, .row 1 (2 * k + 1) t.n cb]] (HWp t W) (Ret (.int .i64 (t.mostF (ofL (W.getD k [])) t.n)) (HWp t W)) := by
 refine CallP.entR (h1 := HWp t W ++ [some (.roa 1 t.n fun m => [.int .i64 (pgT W (2 * k) m)])] ++ [some (.roa 1 t.n fun m => [.int .i64 (pgT W (2 * k + 1) m)])]) (v := .int .i64 (t.mostF (ofL (W.getD k [])) t.n)) ?_ ?_
 ·refine rowA (j := 1) (i := 0) (args' := fun bb => [TA t, .agg [.osl bb 2 1 t.n ca, .row 1 (2 * k + 1) t.n cb]]) rfl rfl (2 * k) (by omega) (fun η bb hbb hq => ?_) fun b1 => ?_
  ·exact cons_b (cons_a (agg_a (hq t.n ca (hz_or hbb fun e => (hz e).1)).symm))
  refine rowA (j := 1) (i := 0) (args' := fun bb => [TA t, .agg [.osl b1 2 1 t.n ca, .osl bb 3 1 t.n cb]]) rfl rfl (2 * k + 1) (by omega) (fun η bb hbb hq => ?_) fun b2 => ?_
  ·exact cons_b (cons_a (agg_b (hq t.n cb (hz_or hbb fun e => (hz e).2)).symm))
  refine (t85 t hn hh ⟨b1, ca, b2, cb⟩ (ofL (W.getD k [])) hx).use [0, 2, 3] ?_ ?_ rfl
  ·exact ⟨rfl, rfl⟩
  ·(repeat' first|exact fp|refine aN ?_ ?_)
   all_goals first | exact rowP1 | exact rowP2
 ·exact ent_tau [0, 1] ⟨by (repeat' first|exact fp|refine aN ?_ ?_), by (repeat' first|exact tm|refine aN ?_ ?_), rfl⟩
end Go.Proofs.Ytioajogaghgipaa
/-
 Plain law: what is told of all truths, counted one by one.
-/
namespace Go.Proofs.Ytioajogaghgipaa
open Go Go.Sy Tic

def xW (W : List (List (Int × Int))) (k : Nat) : Tru := ofL (W.getD k [])
theorem map_xW (W : List (List (Int × Int))) : W.map ofL = (List.range W.length).map (xW W) := by
 apply List.ext_getElem
 ·simp
 ·intro i h1 h2
  simp only [List.getElem_map, List.getElem_range]
  unfold xW
  rw [List.getD_eq_getElem?_getD, List.getElem?_eq_getElem (by simpa using h1)]
  rfl
theorem cntN_zero {p : Nat → Bool} : ∀ {n : Nat}, cntN p n = 0 ↔ ∀ i, i < n → p i = false
 | 0 => ⟨fun _ i hi => absurd hi (Nat.not_lt_zero i), fun _ => rfl⟩
 | n + 1 => by
  have ih := cntN_zero (p := p) (n := n)
  rw [cntN]
  constructor
  ·intro e i hi
   cases hp : p n with
   | true => rw [hp] at e; simp only at e; omega
   | false =>
    rw [hp] at e
    simp only at e
    rcases Nat.lt_succ_iff_lt_or_eq.1 hi with c | rfl
    ·exact ih.1 (by omega) i c
    ·exact hp
  ·intro H
   rw [H n (Nat.lt_succ_self n), ih.2 fun i hi => H i (by omega)]
   rfl
theorem hull_xW {W : List (List (Int × Int))} (hW : W ≠ []) {f : Tru → Int} : hull ((W.map ofL).map f) = hullF (fun k => f (xW W k)) W.length := by
 rw [map_xW, List.map_map]
 exact hull_F (f := fun k => f (xW W k)) (List.length_pos_iff.2 hW)
theorem trs_trl (t : TK) : t.trs = t.trl.map ofL := rfl
theorem trl_nil {t : TK} : t.trs = [] ↔ t.trl = [] := by
 rw [trs_trl]
 exact List.map_eq_nil_iff
theorem xW_mem {t : TK} {k : Nat} (hk : k < t.trl.length) : xW t.trl k ∈ t.trs := by
 rw [trs_trl, map_xW]
 exact List.mem_map.2 ⟨k, List.mem_range.2 hk, rfl⟩
theorem xW_day {t : TK} (hv : t.Valid) {k : Nat} (hk : k < t.trl.length) : Day t.n (xW t.trl k) := fun i hi => by
 obtain ⟨_, h2, _⟩ := TK.mem_trs.1 (xW_mem hk)
 have a := h2 i hi
 have b := hv.2.2 i hi
 unfold TK.okP at a
 unfold TK.okT spanOk at b
 omega
theorem trl_len {t : TK} (hv : t.Valid) : t.trl.length ≤ 1000000 := by
 have h := go_len hv t.n [] (by simp)
 have h5 := hv.2.1
 have : 9 ^ t.n ≤ 9 ^ 5 := Nat.pow_le_pow_right (by decide) h5
 have e : 9 ^ 5 = 59049 := by decide
 unfold TK.trl
 omega
end Go.Proofs.Ytioajogaghgipaa
/-
 The spans of what is measured, of all truths (m).
-/
namespace Go.Proofs.Ytioajogaghgipaa
open Go Go.Sy Tic
set_option linter.unusedSimpArgs false
set_option maxRecDepth 100000
set_option maxHeartbeats 4000000
attribute [local irreducible] CallP CodeP Ent YieldP
set_option maxHeartbeats 16000000

noncomputable def P50m (t : TK) (i : Nat) (a : Bool) (g : (Ms × Ms)) (st : LoopState) (p : Option Code) : List (Nat × SObj) := [(4, L50 st p), (5, .cells [.slice 7 4 0 2 2]), (6, .cells [.bool a]), (7, .arr 4 2 2 (mrow2 8 g.1 g.2)), (8, .cells [.int .i64 i])]
noncomputable def C50m (t : TK) (i : Nat) (g : (Ms × Ms)) (b : Bool) : OB := packR (P50m t i g.1.1 g (bif b then .ready else .done) (bif b then none else some .ret))
noncomputable def HU50m (t : TK) (i : Nat) (bo : Bool) (co : Nat) (a : Bool) (g : (Ms × Ms)) (st : LoopState) (p : Option Code) : SHeap :=
 [some (.roa 5 t.n (TF t)), some (.roc [.int .i64 t.huts, .osl t.b 0 5 t.n t.cap, .osl bo 2 1 t.n co]), some (.roa 1 t.n (rowO (ord t))), some (.roc [.ptr 1 0]), some (L50 st p), some (.cells [.slice 7 4 0 2 2]), some (.cells [.bool a]), some (.arr 4 2 2 (mrow2 8 g.1 g.2)), some (.cells [.int .i64 i]), some .dead, some .dead, some .dead, some .dead]
theorem up50m (t : TK) (i : Nat) (bo : Bool) (co : Nat) (a : Bool) (g : (Ms × Ms)) (x : Tru) : Ent 13 ⟨argT [.agg (trV x)], HI t bo co (packR (P50m t i a g .ready none)), []⟩ ⟨argT [.agg (trV x)], HU50m t i bo co a g .ready none, []⟩ :=
 entUnpack (n := 13) (T := argT [.agg (trV x)]) (H := HI t bo co (packR (P50m t i a g .ready none))) (D := []) NS (P50m t i a g .ready none) 4 rfl rfl rfl ⟨trivial, trivial, trivial, trivial, trivial, trivial⟩
theorem pk50m (t : TK) (i : Nat) (bo : Bool) (co : Nat) (a : Bool) (g : (Ms × Ms)) (T : Tm) : Ent 13 ⟨T, HU50m t i bo co a g .ready none, []⟩ ⟨T, HI t bo co (packR (P50m t i a g .ready none)), []⟩ :=
 entPack (n := 13) (T := T) (H := HU50m t i bo co a g .ready none) (D := []) NS (P50m t i a g .ready none) 4 (by (repeat' first|exact fp|refine aN ?_ ?_)) rfl rfl
theorem y50m (t : TK) (hv : t.Valid) (i : Nat) (hi : i < t.n) (bo : Bool) (co : Nat) (g : (Ms × Ms)) (x : Tru) (hx : x ∈ t.trs) :
  YieldP Try.prog 4 [.agg (trV x)] (HI t bo co (C50m t i g true)) (Ret (.bool (stepM (fun (g : (Ms × Ms)) x => (seeS g.1 (x i).1, seeS g.2 (x i).2)) g x).2) (HI t bo co (C50m t i (stepM (fun (g : (Ms × Ms)) x => (seeS g.1 (x i).1, seeS g.2 (x i).2)) g x).1 (stepM (fun (g : (Ms × Ms)) x => (seeS g.1 (x i).1, seeS g.2 (x i).2)) g x).2))) := by
 have hi5 : i < 5 := by
  have := hv.2.1
  omega
 obtain ⟨g, h⟩ := g
 obtain ⟨N, hN⟩ : ∃ N, (x i).1 = N := ⟨_, rfl⟩
 obtain ⟨M, hM⟩ : ∃ N, (x i).2 = N := ⟨_, rfl⟩
 have c := t101p x i hi5 g h
 have d := t101q x i hi5 (seeS g N) h
 rw [hN] at c
 rw [hM] at d
 have hpk := pk50m t i bo co true (seeS g N, seeS h M)
 have hC : C50m t i (seeS g N, seeS h M) true = packR (P50m t i true (seeS g N, seeS h M) .ready none) := by
  obtain ⟨s, lo, hi⟩ := g
  cases s <;> rfl
 refine YieldP.pre (up50m t i bo co g.1 (g, h) x) (show (4 : Nat) < 13 by decide) ?_
 simp only [stepM]
 rw [hN, hM, hC]
 refine YieldP.ent (roundP E_ok rfl rfl fun l => ?_)
 (repeat' first|exact ap|refine aN ?_ ?_)
 refine loopP E_ok [5, 8, 9, 34] (fun j : Nat => [(35, .int .i64 j)]) (fun j _ => match j with
   | 0 => HU50m t i bo co true (g, h) .busy none ++ [some (.cells (trV x))]
   | 1 => HU50m t i bo co true (seeS g N, h) .busy none ++ [some (.cells (trV x))]
   | _ => HU50m t i bo co true (seeS g N, seeS h M) .busy none ++ [some (.cells (trV x))]) (fun j => j ≤ 2) (fun j => 2 - j) 0 (Nat.zero_le _) ?_ ?_
 ·exact ent_tau [0, 1, 2, 3, 4, 5, 6, 7, 8, 9, 10, 11, 12, 13] ⟨by (repeat' first|exact fp|refine aN ?_ ?_), by (repeat' first|exact tm|refine aN ?_ ?_), rfl⟩
 rintro j hj
 have hj2 : j = 0 ∨ j = 1 ∨ j = 2 := by omega
 rcases hj2 with rfl | rfl | rfl
 ·all_goals (repeat' first|exact ap|refine aN ?_ ?_)
  all_goals first | exact gd | skip
  all_goals intro h1
  all_goals first | exact absurd h1 (by decide) | (cases h1; done) | skip
  (repeat' first|exact ap|refine aN ?_ ?_)
  all_goals first | exact om | skip
  refine drawP E_ok [5, 13] pl50_14 (by kernel_rfl) ?_
  (repeat' first|exact ap|refine aN ?_ ?_)
  all_goals first | exact om | skip
  refine c.use [7, 8] ?_ (by (repeat' first|exact fp|refine aN ?_ ?_); all_goals exact two1' rfl rfl) rfl
  (repeat' first|exact ap|refine aN ?_ ?_)
  all_goals first | exact om | skip
  refine ⟨1, by omega, by omega, ?_⟩
  refine ent_tau [0, 1, 2, 3, 4, 5, 6, 7, 8, 9, 10, 11, 12, 13] ⟨?_, by (repeat' first|exact tm|refine aN ?_ ?_), rfl⟩
  (repeat' first|exact fp|refine aN ?_ ?_)
  all_goals exact two1' rfl rfl
 ·all_goals (repeat' first|exact ap|refine aN ?_ ?_)
  all_goals first | exact gd | skip
  all_goals intro h1
  all_goals first | exact absurd h1 (by decide) | (cases h1; done) | skip
  (repeat' first|exact ap|refine aN ?_ ?_)
  all_goals first | exact om | skip
  refine drawP E_ok [5, 13] pl50_14 (by kernel_rfl) ?_
  (repeat' first|exact ap|refine aN ?_ ?_)
  all_goals first | exact om | skip
  refine d.use [7, 8] ?_ (by (repeat' first|exact fp|refine aN ?_ ?_); all_goals exact two1' rfl rfl) rfl
  (repeat' first|exact ap|refine aN ?_ ?_)
  all_goals first | exact om | skip
  refine ⟨2, by omega, by omega, ?_⟩
  refine ent_tau [0, 1, 2, 3, 4, 5, 6, 7, 8, 9, 10, 11, 12, 13] ⟨?_, by (repeat' first|exact tm|refine aN ?_ ?_), rfl⟩
  (repeat' first|exact fp|refine aN ?_ ?_)
  all_goals exact two1' rfl rfl
 ·all_goals (repeat' first|exact ap|refine aN ?_ ?_)
  all_goals first | exact gd | skip
  all_goals intro h1
  all_goals first | exact absurd h1 (by decide) | (cases h1; done) | skip
  (repeat' first|exact ap|refine aN ?_ ?_)
  all_goals first | exact om | skip
  refine ⟨_, _, ⟨rfl, rfl⟩, ?_⟩
  refine Ent.trans ?_ (hpk _)
  refine ent_tau [0, 1, 2, 3, 4, 5, 6, 7, 8, 9, 10, 11, 12] ⟨?_, by (repeat' first|exact tm|refine aN ?_ ?_), rfl⟩
  (repeat' first|exact fp|refine aN ?_ ?_)
  all_goals exact two1' rfl rfl
noncomputable def G50m (t : TK) (i : Nat) (bo : Bool) (co : Nat) (a : Bool) (g : (Ms × Ms)) (st : LoopState) (p : Option Code) : SHeap :=
 HQ t bo co ++ [some (.cells [.slice 5 4 0 2 2]), some (.cells [.bool a]), some (.arr 4 2 2 (mrow2 6 g.1 g.2)), some (.cells [.int .i64 i]), some (.roc [.ptr 1 0]), some (L50h st p)]
def S50m : List Nat := [0, 1, 2, 7, 8, 3, 4, 5, 6, 3, 3, 3, 3]
noncomputable def GP50m (t : TK) (bo : Bool) (co : Nat) (ob : OB) : SHeap :=
 HQ t bo co ++ [some .dead, some .dead, some .dead, some .dead, some (.roc [.ptr 1 0]), some (.pack S50m ob)]
theorem r50m (t : TK) (hv : t.Valid) (i : Nat) (hi : i < t.n) (bo : Bool) (co : Nat) (hbo : OrdV t bo co) : CallP Try.prog 103 [.yld 8, .ptr 7 0] (G50m t i bo co false ((false, 0, 0), (false, 0, 0)) .ready none) (Ret (.tup []) (G50m t i bo co ((msOf (t.trs.map fun x => (x i).1), msOf (t.trs.map fun x => (x i).2))).1.1 ((msOf (t.trs.map fun x => (x i).1), msOf (t.trs.map fun x => (x i).2))) .ready none)) := by
 have c := t103 t hv bo co hbo (stepM (fun (g : (Ms × Ms)) x => (seeS g.1 (x i).1, seeS g.2 (x i).2))) (C50m t i) (fun g x hx => y50m t hv i hi bo co g x hx) ((false, 0, 0), (false, 0, 0))
 rw [run_M, fold_two (fun g (x : Tru) => seeS g (x i).1) (fun g (x : Tru) => seeS g (x i).2), fold_ms (fun x => (x i).1), fold_ms (fun x => (x i).2), ms_trs (fun x => (x i).1), ms_trs (fun x => (x i).2)] at c
 obtain ⟨R, hR⟩ : ∃ R : (Ms × Ms), (msOf (t.trs.map fun x => (x i).1), msOf (t.trs.map fun x => (x i).2)) = R := ⟨_, rfl⟩
 rw [hR] at c ⊢
 simp only at c
 have h1 : CallP Try.prog 103 [.yld 8, .ptr 7 0] (GP50m t bo co (C50m t i ((false, 0, 0), (false, 0, 0)) true)) (Ret (.tup []) (GP50m t bo co (C50m t i R true))) := by
  refine c.use S50m ?_ (by (repeat' first|exact fp|refine aN ?_ ?_)) rfl
  exact ⟨rfl, rfl⟩
 refine CallP.pre (entPack (n := 9) (T := argT [.yld 8, .ptr 7 0]) (H := G50m t i bo co false ((false, 0, 0), (false, 0, 0)) .ready none) (D := []) S50m (P50m t i false ((false, 0, 0), (false, 0, 0)) .ready none) 8 (by (repeat' first|exact fp|refine aN ?_ ?_)) rfl rfl) ?_
 refine CallP.entR h1 ?_
 exact entUnpack (n := 9) (T := [some (none, .tup [])]) (H := GP50m t bo co (C50m t i R true)) (D := []) S50m (P50m t i R.1.1 R .ready none) 8 rfl rfl rfl ⟨trivial, trivial, trivial, trivial, trivial, trivial⟩
def row50m : Nat → List SV := fun k => match k with | 0 => [.fn (.func 51) [] [.ptr 4 0]] | _ => [.fn (.func 52) [] [.ptr 4 0]]
def spn50m (t : TK) (i : Nat) : Nat → List SV := fun k => match k with | 0 => [.int .i64 (hull (t.trs.map fun x => (x i).1)).1, .int .i64 (hull (t.trs.map fun x => (x i).1)).2] | _ => [.int .i64 (hull (t.trs.map fun x => (x i).2)).1, .int .i64 (hull (t.trs.map fun x => (x i).2)).2]
def HS50m (t : TK) (i : Nat) (bo : Bool) (co : Nat) : SHeap := HQ t bo co ++ [some (.roa 1 2 row50m), some (.cells [.int .i64 i])]
def HD50m (t : TK) (bo : Bool) (co : Nat) : SHeap := HQ t bo co ++ [some .dead, some .dead]
def K50m (t : TK) (i : Nat) (bo : Bool) (co : Nat) : CE → SHeap → Prop := fun ce h' =>
 (t.trs = [] ∧ ce = .panic (panE 10) ∧ h' = HD50m t bo co) ∨ (t.trs ≠ [] ∧ ∃ c, 2 ≤ c ∧ ce = .ret (.slice 5 2 0 2 c) ∧ h' = HD50m t bo co ++ [some (.arr 2 2 c (spn50m t i))])
theorem t50m (t : TK) (hv : t.Valid) (i : Nat) (hi : i < t.n) (bo : Bool) (co : Nat) (hbo : OrdV t bo co) : CallP Try.prog 50 [.ptr 1 0, .slice 3 1 0 2 2] (HS50m t i bo co) (K50m t i bo co) := by
 have c := r50m t hv i hi bo co hbo
 have hR0 : ((msOf (t.trs.map fun x => (x i).1), msOf (t.trs.map fun x => (x i).2)) = ((false, 0, 0), (false, 0, 0)) ∧ t.trs = []) ∨ (t.trs ≠ [] ∧ (msOf (t.trs.map fun x => (x i).1), msOf (t.trs.map fun x => (x i).2)) = ((true, (hull (t.trs.map fun x => (x i).1)).1, (hull (t.trs.map fun x => (x i).1)).2), (true, (hull (t.trs.map fun x => (x i).2)).1, (hull (t.trs.map fun x => (x i).2)).2))) := by
  cases hT : t.trs with
  | nil => exact .inl ⟨rfl, rfl⟩
  | cons x l => exact .inr ⟨List.cons_ne_nil _ _, rfl⟩
 obtain ⟨R, hR⟩ : ∃ R : (Ms × Ms), (msOf (t.trs.map fun x => (x i).1), msOf (t.trs.map fun x => (x i).2)) = R := ⟨_, rfl⟩
 rw [hR] at c hR0
 unfold K50m spn50m
 obtain ⟨u, hu⟩ : ∃ u : Int × Int, hull (t.trs.map fun x => (x i).1) = u := ⟨_, rfl⟩
 rw [hu] at hR0 ⊢
 obtain ⟨v, hvv⟩ : ∃ v : Int × Int, hull (t.trs.map fun x => (x i).2) = v := ⟨_, rfl⟩
 rw [hvv] at hR0 ⊢
 have hcl : R.1.1 = true ∨ R.1.1 = false := by cases R.1.1 <;> simp
 refine callMK (E := E) E_ok Try.func50 rfl ?_
 (repeat' first|exact ap|refine aN ?_ ?_)
 all_goals first | exact om | skip
 all_goals first | (show ((ti134.bytes : Nat) : Int) * ((2 : Nat) : Int) ≤ _; decide) | skip
 refine loopP E_ok [0, 5, 17, 18] (fun j : Nat => [(19, .int .i64 j)]) (fun j _ => match j with
   | 0 => HS50m t i bo co ++ [some (.arr 4 2 2 (mrow2m (.fnil) (.fnil))), some (.cells [.slice 5 4 0 2 2])]
   | 1 => HS50m t i bo co ++ [some (.arr 4 2 2 (mrow2m (.fn (.func 51) [] [.ptr 4 0]) (.fnil))), some (.cells [.slice 5 4 0 2 2])]
   | _ => HS50m t i bo co ++ [some (.arr 4 2 2 (mrow2 4 (false, 0, 0) (false, 0, 0))), some (.cells [.slice 5 4 0 2 2])]) (fun j => j ≤ 2) (fun j => 2 - j) 0 (Nat.zero_le _) ?_ ?_
 ·refine ent_tau [0, 1, 2, 3, 4, 5, 6] ⟨?_, by (repeat' first|exact tm|refine aN ?_ ?_), rfl⟩
  (repeat' first|exact fp|refine aN ?_ ?_)
  all_goals exact two1' rfl rfl
 rintro j hj
 have hj2 : j = 0 ∨ j = 1 ∨ j = 2 := by omega
 rcases hj2 with rfl | rfl | rfl
 ·all_goals (repeat' first|exact ap|refine aN ?_ ?_)
  all_goals first | exact gd | skip
  all_goals intro h1
  all_goals first | exact absurd h1 (by decide) | (cases h1; done) | skip
  (repeat' first|exact ap|refine aN ?_ ?_)
  all_goals first | exact om | skip
  refine ⟨1, by omega, by omega, ?_⟩
  refine ent_tau [0, 1, 2, 3, 4, 5, 6] ⟨?_, by (repeat' first|exact tm|refine aN ?_ ?_), rfl⟩
  (repeat' first|exact fp|refine aN ?_ ?_)
  all_goals exact two1' rfl rfl
 ·all_goals (repeat' first|exact ap|refine aN ?_ ?_)
  all_goals first | exact gd | skip
  all_goals intro h1
  all_goals first | exact absurd h1 (by decide) | (cases h1; done) | skip
  (repeat' first|exact ap|refine aN ?_ ?_)
  all_goals first | exact om | skip
  refine ⟨2, by omega, by omega, ?_⟩
  refine ent_tau [0, 1, 2, 3, 4, 5, 6] ⟨?_, by (repeat' first|exact tm|refine aN ?_ ?_), rfl⟩
  (repeat' first|exact fp|refine aN ?_ ?_)
  all_goals exact two1' rfl rfl
 ·all_goals (repeat' first|exact ap|refine aN ?_ ?_)
  all_goals first | exact gd | skip
  all_goals intro h1
  all_goals first | exact absurd h1 (by decide) | (cases h1; done) | skip
  (repeat' first|exact ap|refine aN ?_ ?_)
  all_goals first | exact om | skip
  refine (t67o t bo co).use [0, 1, 2] ?_ (by (repeat' first|exact fp|refine aN ?_ ?_)) rfl
  (repeat' first|exact ap|refine aN ?_ ?_)
  refine rangeP E_ok rfl rfl ?_
  refine c.use [0, 1, 2, 6, 7, 5, 4, 8, 10] ?_ (by (repeat' first|exact fp|refine aN ?_ ?_); all_goals exact two1' rfl rfl) rfl
  refine ⟨by decide, ?_⟩
  rcases hR0 with ⟨rfl, hne⟩ | ⟨hne, rfl⟩
  ·(repeat' first|exact ap|refine aN ?_ ?_)
   all_goals first | exact om | skip
   refine must (fun hb => ?_) (fun hb => ?_)
   ·exact absurd hb (by decide)
   ·(repeat' first|exact ap|refine aN ?_ ?_)
    ·exact fun o h => h
    refine ⟨_, _, .inl ⟨hne, rfl, rfl⟩, ?_⟩
    exact ent_tau [0, 1, 2, 3, 4] ⟨by (repeat' first|exact fp|refine aN ?_ ?_), by (repeat' first|exact tm|refine aN ?_ ?_), rfl⟩
  ·(repeat' first|exact ap|refine aN ?_ ?_)
   all_goals first | exact om | skip
   refine must (fun hb => ?_) (fun hb => ?_)
   ·(repeat' first|exact ap|refine aN ?_ ?_)
    all_goals first | exact om | skip
    refine loopP E_ok [46, 47] (fun g : Nat × Nat => [(48, .int .i64 g.1), (11, match g.1 with | 0 => .snil | _ => .slice 11 2 0 g.1 g.2)]) (fun g H => match g.1 with
      | 0 => HQ t bo co ++ [some (.roa 1 2 row50m), some .dead, some (.arr 4 2 2 (mrow2 4 (true, u.1, u.2) (true, v.1, v.2))), some (.cells [.slice 5 4 0 2 2]), some .dead, some .dead, some (.obj isDfr), some .dead]
      | 1 => HQ t bo co ++ [some (.roa 1 2 row50m), some .dead, some (.arr 4 2 2 (mrow2 4 (true, u.1, u.2) (true, v.1, v.2))), some (.cells [.slice 5 4 0 2 2]), some .dead, some .dead, some (.obj isDfr), some .dead, some (.arr 2 1 g.2 (fun _ => [.int .i64 u.1, .int .i64 u.2]))]
      | _ => HQ t bo co ++ [some (.roa 1 2 row50m), some .dead, some (.arr 4 2 2 (mrow2 4 (true, u.1, u.2) (true, v.1, v.2))), some (.cells [.slice 5 4 0 2 2]), some .dead, some .dead, some (.obj isDfr), some .dead, some (.arr 2 2 g.2 (fun k => match k with | 0 => [.int .i64 u.1, .int .i64 u.2] | _ => [.int .i64 v.1, .int .i64 v.2]))]) (fun g => g.1 ≤ 2 ∧ (0 < g.1 → g.1 ≤ g.2 ∧ g.2 ≤ 9223372036854775807)) (fun g => 2 - g.1) (0, 0) ⟨Nat.zero_le _, fun h => absurd h (Nat.lt_irrefl 0)⟩ ?_ ?_
    ·refine ent_tau [0, 1, 2, 3, 4, 5, 6, 7, 8, 9, 10] ⟨?_, by (repeat' first|exact tm|refine aN ?_ ?_), rfl⟩
     (repeat' first|exact fp|refine aN ?_ ?_)
     all_goals first | exact fun o h => h | exact two1' rfl rfl
    rintro ⟨j, c⟩ ⟨hj, hjc⟩
    simp only at hj hjc
    have hj2 : j = 0 ∨ j = 1 ∨ j = 2 := by omega
    rcases hj2 with rfl | rfl | rfl
    ·all_goals (repeat' first|exact ap|refine aN ?_ ?_)
     all_goals first | exact gd | skip
     all_goals intro h1
     all_goals first | exact absurd h1 (by decide) | (cases h1; done) | skip
     (repeat' first|exact ap|refine aN ?_ ?_)
     all_goals first | exact om | skip
     all_goals first | exact (hjc (by omega)).2 | exact (hjc (by omega)).1 | exact one1 rfl | (show 1 * ti28.bytes ≤ _; decide) | (show 1 * ti28.bytes ≤ _; decide) | skip
     intro c' hc1 hc2
     (repeat' first|exact ap|refine aN ?_ ?_)
     all_goals first | exact om | skip
     refine ⟨(1, c'), ⟨by simp only; omega, fun _ => ⟨hc1, hc2⟩⟩, by simp only; omega, ?_⟩
     refine ent_tau [0, 1, 2, 3, 4, 5, 6, 7, 8, 9, 10, 13] ⟨?_, by (repeat' first|exact tm|refine aN ?_ ?_), rfl⟩
     (repeat' first|exact fp|refine aN ?_ ?_)
     all_goals first | exact fun o h => h | exact two1' rfl rfl | exact one1' rfl
    ·all_goals (repeat' first|exact ap|refine aN ?_ ?_)
     all_goals first | exact gd | skip
     all_goals intro h1
     all_goals first | exact absurd h1 (by decide) | (cases h1; done) | skip
     (repeat' first|exact ap|refine aN ?_ ?_)
     all_goals first | exact om | skip
     all_goals first | exact (hjc (by omega)).2 | exact (hjc (by omega)).1 | exact one1 rfl | (show 2 * ti28.bytes ≤ _; decide) | (show 1 * ti28.bytes ≤ _; decide) | skip
     intro c' hc1 hc2
     (repeat' first|exact ap|refine aN ?_ ?_)
     all_goals first | exact om | skip
     refine ⟨(2, c'), ⟨by simp only; omega, fun _ => ⟨hc1, hc2⟩⟩, by simp only; omega, ?_⟩
     refine ent_tau [0, 1, 2, 3, 4, 5, 6, 7, 8, 9, 10, 14] ⟨?_, by (repeat' first|exact tm|refine aN ?_ ?_), rfl⟩
     (repeat' first|exact fp|refine aN ?_ ?_)
     all_goals first | exact fun o h => h | exact two1' rfl rfl | exact one1' rfl
    ·all_goals (repeat' first|exact ap|refine aN ?_ ?_)
     all_goals first | exact gd | skip
     all_goals intro h1
     all_goals first | exact absurd h1 (by decide) | (cases h1; done) | skip
     (repeat' first|exact ap|refine aN ?_ ?_)
     all_goals first | exact om | skip
     ·exact fun o h => h
     refine ⟨_, _, .inr ⟨hne, c, (hjc (by omega)).1, rfl, rfl⟩, ?_⟩
     refine ent_tau [0, 1, 2, 3, 4, 11] ⟨?_, by (repeat' first|exact tm|refine aN ?_ ?_), rfl⟩
     (repeat' first|exact fp|refine aN ?_ ?_)
     all_goals exact two1' rfl rfl
   ·cases hb
end Go.Proofs.Ytioajogaghgipaa
