/-
  Parts: Pb, Pc, Pn.
-/
import Derived.Test.YtgofhjihkinknaaK24
import Derived.Test.YtgofhjihkinknaaK23
set_option linter.unusedVariables false
/-
  Contracts: the first plan is sought.
-/
namespace Go.Proofs.Ytgofhjihkinknaa
open Go Go.Sy Kuhn
set_option linter.unusedSimpArgs false
set_option maxRecDepth 100000
set_option maxHeartbeats 4000000
attribute [local irreducible] CallP CodeP Ent YieldP
attribute [local irreducible] HD.ch maskO

/-- Seven horses. -/
def liI (L : Nat → Int) : List SV := [.int .i64 (L 0), .int .i64 (L 1), .int .i64 (L 2), .int .i64 (L 3), .int .i64 (L 4), .int .i64 (L 5), .int .i64 (L 6)]
def upd (L : Nat → Int) (i : Nat) (x : Int) : Nat → Int := fun m => if m = i then x else L m
theorem ofP_upd (L : Nat → Int) (i : Nat) (x : Int) : HD.ofP (i + 1) (upd L i x) = HD.ofP i L ++ [x] := by
  unfold HD.ofP
  rw [List.range_succ, List.map_append]
  congr 1
  · refine List.map_congr_left fun k hk => ?_
    rw [List.mem_range] at hk
    unfold upd
    rw [if_neg (by omega)]
  · simp [upd]
theorem ofP_congr {L L' : Nat → Int} {i : Nat} (h : ∀ k, k < i → L k = L' k) : HD.ofP i L = HD.ofP i L' :=
  List.map_congr_left fun k hk => h k (List.mem_range.1 hk)
/-- What goes on from a plan of the first ones, by the next one's horse. -/
def nextW (h : HD) (s : Bool) (N r : Nat) (L : List Int) (x : Nat) : List (List Int) := match h.fits s L (x : Int) with
  | true => h.ways s HD.full N r (L ++ [(x : Int)])
  | false => []
theorem ways_next (h : HD) (s : Bool) (N r : Nat) (L : List Int) : h.ways s HD.full N (r + 1) L = (List.range N).flatMap (nextW h s N r L) := rfl
theorem flat_none {g : Nat → List (List Int)} {N : Nat} (h : ∀ y, y < N → g y = []) : (List.range N).flatMap g = [] := by
  rw [List.flatMap_eq_nil_iff]
  intro y hy
  exact h y (List.mem_range.1 hy)
theorem flat_head {g : Nat → List (List Int)} {A : List Int} {x : Nat} (hx : (g x).head? = some A) : ∀ {N : Nat}, x < N → (∀ y, y < x → g y = []) → ((List.range N).flatMap g).head? = some A
  | 0, h, _ => absurd h (Nat.not_lt_zero _)
  | N + 1, h, h0 => by
    rw [List.range_succ, List.flatMap_append]
    rcases Nat.lt_succ_iff_lt_or_eq.1 h with c | rfl
    · have ih := flat_head (g := g) (A := A) hx c h0
      rw [List.head?_append, ih]
      rfl
    · rw [flat_none h0, List.nil_append]
      simpa using hx
def H68 (h : HD) (s : Bool) (N : Nat) (L : Nat → Int) : SHeap := HD.H h ++ [some (.roc (bc h)), some (.roc [.int .i64 N]), some (.cells (liI L)), some (.roc (chI fun j => (h.ch s j : Nat))), some (.roc [.fn (.func 68) [] [.ptr 1 0, .ptr 2 0, .ptr 3 0, .ptr 4 0, .ptr 5 0]])]
/-- What comes of going on. -/
def K68 (h : HD) (s : Bool) (N i : Nat) (L : Nat → Int) : CE → SHeap → Prop := fun ce h' => ∃ b L', ce = .ret (.bool b) ∧ h' = H68 h s N L' ∧ (∀ k, k < i → L' k = L k) ∧
  match b with
  | true => ∃ A, (h.ways s HD.full N (h.n - i) (HD.ofP i L)).head? = some A ∧ ∀ k, k < h.n → L' k = A.getD k 0
  | false => h.ways s HD.full N (h.n - i) (HD.ofP i L) = []
theorem fits_of {h : HD} {s : Bool} {L : Nat → Int} {i x : Nat} (H : ∀ k, k < i → ¬ (L k = x ∧ h.apart s i k = true)) : h.fits s (HD.ofP i L) x = true := by
  rw [HD.fits_iff, HD.ofP_len]
  intro k hk e
  rw [HD.ofP_get hk] at e
  cases c : h.apart s i k with
  | false => rfl
  | true => exact absurd ⟨e, c⟩ (H k hk)
theorem fits_not {h : HD} {s : Bool} {L : Nat → Int} {i x k : Nat} (hk : k < i) (e : L k = x) (c : h.apart s i k = true) : h.fits s (HD.ofP i L) x = false := by
  cases hf : h.fits s (HD.ofP i L) x with
  | false => rfl
  | true =>
    have := HD.fits_iff.1 hf k (by rw [HD.ofP_len]; exact hk) (by rw [HD.ofP_get hk]; exact e)
    rw [HD.ofP_len, c] at this
    cases this
theorem t68 (h : HD) (hv : h.Valid) (s : Bool) (N : Nat) (hN : N ≤ 7) : ∀ (r i : Nat) (L : Nat → Int), i + r = h.n →
    CallP Try.prog 68 [.int .i64 i, .ptr 1 0, .ptr 2 0, .ptr 3 0, .ptr 4 0, .ptr 5 0] (H68 h s N L) (K68 h s N i L)
  | 0, i, L, hi => by
    have e : i = h.n := by omega
    subst e
    refine callK (E := E) E_ok Try.func68 rfl ?_
    (repeat' (first | exact trivial | exact fun _ => rfl | exact rfl | refine And.intro ?_ ?_))
    all_goals first | (first | omega | exact u0 (by omega) | exact u1 (by omega) | exact u1 ⟨by omega, by omega⟩ | exact un (by omega) | exact fun hh => hh | exact fun hh => absurd hh (by decide) | exact fun hh => congrArg not hh | exact fun hh => Bool.noConfusion (show true = false from hh) | exact fun hh => Bool.noConfusion (show false = true from hh)) | skip
    · intro _
      (repeat' (first | exact trivial | exact fun _ => rfl | exact rfl | refine And.intro ?_ ?_))
      refine ⟨_, _, ⟨true, L, rfl, rfl, fun _ _ => rfl, HD.ofP h.n L, ?_, fun k hk => (HD.ofP_get hk).symm⟩, ?_⟩
      · rw [Nat.sub_self]
        rfl
      · exact ent_tau [0, 1, 2, 3, 4, 5] ⟨by (repeat' (first | exact trivial | exact rfl | exact fun _ _ => rfl | exact Or.inl rfl | refine And.intro ?_ ?_)), by (repeat' (first | exact trivial | exact rfl | exact congrArg (SV.int .i64) (Int.natCast_succ _).symm | exact congrArg (SV.int .u64) (Int.natCast_succ _).symm | refine And.intro ?_ ?_)), rfl⟩
    · intro hx
      simp at hx
  | r + 1, i, L, hi => by
    have IH := t68 h hv s N hN r (i + 1)
    have hn7 := hv.2.1
    have hlt : i < h.n := by omega
    have er : h.n - i = r + 1 := by omega
    have er2 : h.n - (i + 1) = r := by omega
    have bt : ∀ i k, i < h.n → k < h.n → (h.ch s i).testBit k = h.can s i k := fun i k hi hk => by
      rw [HD.ch_bit, decide_eq_true hi, decide_eq_true hk]
      rfl
    have c57 : ∀ i k : Nat, i < h.n → k < h.n → CallP Try.prog 57 [.agg (chI fun j => (h.ch s j : Nat)), .int .i64 i, .int .i64 k] [] (Ret (.bool (h.apart s i k)) []) := fun i k hi hk => by
      have := t57 (h.ch s) (fun j _ => HD.ch_lt hn7 s j) i k (by omega) (by omega)
      rw [bt i k hi hk, bt k i hk hi] at this
      exact this
    refine callK (E := E) E_ok Try.func68 rfl ?_
    (repeat' (first | exact trivial | exact fun _ => rfl | exact rfl | refine And.intro ?_ ?_))
    all_goals first | (first | omega | exact u0 (by omega) | exact u1 (by omega) | exact u1 ⟨by omega, by omega⟩ | exact un (by omega) | exact fun hh => hh | exact fun hh => absurd hh (by decide) | exact fun hh => congrArg not hh | exact fun hh => Bool.noConfusion (show true = false from hh) | exact fun hh => Bool.noConfusion (show false = true from hh)) | skip
    · intro hx
      have := of_decide_eq_true hx
      omega
    · intro _
      (repeat' (first | exact trivial | exact fun _ => rfl | exact rfl | refine And.intro ?_ ?_))
      all_goals first | (first | omega | exact u0 (by omega) | exact u1 (by omega) | exact u1 ⟨by omega, by omega⟩ | exact un (by omega) | exact fun hh => hh | exact fun hh => absurd hh (by decide) | exact fun hh => congrArg not hh | exact fun hh => Bool.noConfusion (show true = false from hh) | exact fun hh => Bool.noConfusion (show false = true from hh)) | skip
      refine loopP E_ok [0, 1, 2, 3, 4, 5, 16] (fun g : Nat × (Nat → Int) => [(17, .int .i64 g.1)]) (fun g _ => H68 h s N g.2) (fun g => g.1 ≤ N ∧ (∀ k, k < i → g.2 k = L k) ∧ ∀ y, y < g.1 → nextW h s N r (HD.ofP i L) y = []) (fun g => N - g.1) (0, L) ⟨Nat.zero_le _, fun _ _ => rfl, fun y hy => by simp only at hy; omega⟩ ?_ ?_
      · exact ent_tau [0, 1, 2, 3, 4, 5] ⟨by (repeat' (first | exact trivial | exact rfl | exact fun _ _ => rfl | exact Or.inl rfl | refine And.intro ?_ ?_)), by (repeat' (first | exact trivial | exact rfl | exact congrArg (SV.int .i64) (Int.natCast_succ _).symm | exact congrArg (SV.int .u64) (Int.natCast_succ _).symm | refine And.intro ?_ ?_)), rfl⟩
      rintro ⟨x, L1⟩ ⟨hx, hag, hno⟩
      simp only at hx hag hno
      refine And.intro ?_ (And.intro (fun hlx => ?_) (fun hlx => ?_))
      · (repeat' (first | exact trivial | exact fun _ => rfl | exact rfl | refine And.intro ?_ ?_))
      · have hxN : x < N := by
          have := of_decide_eq_true hlx
          simp only at this
          omega
        have next : nextW h s N r (HD.ofP i L) x = [] → ∀ y, y < x + 1 → nextW h s N r (HD.ofP i L) y = [] := fun hb y hy => by
          by_cases c : y = x
          · rw [c]; exact hb
          · exact hno y (by omega)
        (repeat' (first | exact trivial | exact fun _ => rfl | exact rfl | refine And.intro ?_ ?_))
        all_goals first | (first | omega | exact u0 (by omega) | exact u1 (by omega) | exact u1 ⟨by omega, by omega⟩ | exact un (by omega) | exact fun hh => hh | exact fun hh => absurd hh (by decide) | exact fun hh => congrArg not hh | exact fun hh => Bool.noConfusion (show true = false from hh) | exact fun hh => Bool.noConfusion (show false = true from hh)) | skip
        refine loopP E_ok [0, 1, 2, 3, 4, 5, 8, 16, 17, 20] (fun k : Nat => [(21, .int .i64 k)]) (fun _ _ => H68 h s N L1) (fun k => k ≤ i ∧ ∀ k', k' < k → ¬ (L k' = x ∧ h.apart s i k' = true)) (fun k => i - k) 0 ⟨Nat.zero_le _, fun k' hk => by omega⟩ ?_ ?_
        · exact ent_tau [0, 1, 2, 3, 4, 5] ⟨by (repeat' (first | exact trivial | exact rfl | exact fun _ _ => rfl | exact Or.inl rfl | refine And.intro ?_ ?_)), by (repeat' (first | exact trivial | exact rfl | exact congrArg (SV.int .i64) (Int.natCast_succ _).symm | exact congrArg (SV.int .u64) (Int.natCast_succ _).symm | refine And.intro ?_ ?_)), rfl⟩
        rintro k ⟨hk, hnk⟩
        refine And.intro ?_ (And.intro (fun hlk => ?_) (fun hlk => ?_))
        · (repeat' (first | exact trivial | exact fun _ => rfl | exact rfl | refine And.intro ?_ ?_))
        · have hki : k < i := by
            have := of_decide_eq_true hlk
            omega
          have hge : [L1 0, L1 1, L1 2, L1 3, L1 4, L1 5, L1 6].getD ((k : Nat) : Int).toNat 0 = L k := by
            rw [Int.toNat_natCast, get7 L1 k (by omega), hag k hki]
          have nextk : ¬ (L k = x ∧ h.apart s i k = true) → ∀ k', k' < k + 1 → ¬ (L k' = x ∧ h.apart s i k' = true) := fun hb k' hk' => by
            by_cases c : k' = k
            · rw [c]; exact hb
            · exact hnk k' (by omega)
          (repeat' (first | exact trivial | exact fun _ => rfl | exact rfl | refine And.intro ?_ ?_))
          all_goals first | (first | omega | exact u0 (by omega) | exact u1 (by omega) | exact u1 ⟨by omega, by omega⟩ | exact un (by omega) | exact fun hh => hh | exact fun hh => absurd hh (by decide) | exact fun hh => congrArg not hh | exact fun hh => Bool.noConfusion (show true = false from hh) | exact fun hh => Bool.noConfusion (show false = true from hh)) | skip
          · intro hg
            have hg' : gB none (wB true (decide ([L1 0, L1 1, L1 2, L1 3, L1 4, L1 5, L1 6].getD ((k : Nat) : Int).toNat 0 = (x : Int)))) = true := hg
            rw [hge] at hg'
            have hg2 : L k = x := by simpa [gB, wB] using hg'
            have hge2 := hge.trans hg2
            refine (c57 i k hlt (by omega)).use [] ?_ trivial rfl
            obtain ⟨b, hb⟩ : ∃ b, h.apart s i k = b := ⟨_, rfl⟩
            rw [hb]
            cases b with
            | true =>
              (repeat' (first | exact trivial | exact fun _ => rfl | exact rfl | refine And.intro ?_ ?_))
              all_goals first | (first | omega | exact u0 (by omega) | exact u1 (by omega) | exact u1 ⟨by omega, by omega⟩ | exact un (by omega) | exact fun hh => hh | exact fun hh => absurd hh (by decide) | exact fun hh => congrArg not hh | exact fun hh => Bool.noConfusion (show true = false from hh) | exact fun hh => Bool.noConfusion (show false = true from hh)) | exact fun _ => hg | exact fun _ _ => hg | skip
              · intro _
                (repeat' (first | exact trivial | exact fun _ => rfl | exact rfl | refine And.intro ?_ ?_))
                all_goals first | (first | omega | exact u0 (by omega) | exact u1 (by omega) | exact u1 ⟨by omega, by omega⟩ | exact un (by omega) | exact fun hh => hh | exact fun hh => absurd hh (by decide) | exact fun hh => congrArg not hh | exact fun hh => Bool.noConfusion (show true = false from hh) | exact fun hh => Bool.noConfusion (show false = true from hh)) | skip
                refine ⟨(x + 1, L1), ⟨hxN, hag, next (by unfold nextW; rw [fits_not hki hg2 hb])⟩, by simp only; omega, ?_⟩
                exact ent_tau [0, 1, 2, 3, 4, 5] ⟨by (repeat' (first | exact trivial | exact rfl | exact fun _ _ => rfl | exact Or.inl rfl | refine And.intro ?_ ?_)), by (repeat' (first | exact trivial | exact rfl | exact congrArg (SV.int .i64) (Int.natCast_succ _).symm | exact congrArg (SV.int .u64) (Int.natCast_succ _).symm | refine And.intro ?_ ?_)), rfl⟩
              · intro hx2
                exfalso
                have hx3 : (bif decide ([L1 0, L1 1, L1 2, L1 3, L1 4, L1 5, L1 6].getD ((k : Nat) : Int).toNat 0 = (x : Int)) then true else false) = false := hx2
                rw [hge2, decide_eq_true rfl] at hx3
                cases hx3
            | false =>
              (repeat' (first | exact trivial | exact fun _ => rfl | exact rfl | refine And.intro ?_ ?_))
              all_goals first | (first | omega | exact u0 (by omega) | exact u1 (by omega) | exact u1 ⟨by omega, by omega⟩ | exact un (by omega) | exact fun hh => hh | exact fun hh => absurd hh (by decide) | exact fun hh => congrArg not hh | exact fun hh => Bool.noConfusion (show true = false from hh) | exact fun hh => Bool.noConfusion (show false = true from hh)) | exact fun _ => hg | exact fun _ _ => hg | skip
              · intro hx2
                exfalso
                have hx3 : (bif decide ([L1 0, L1 1, L1 2, L1 3, L1 4, L1 5, L1 6].getD ((k : Nat) : Int).toNat 0 = (x : Int)) then false else false) = true := hx2
                rw [hge2, decide_eq_true rfl] at hx3
                cases hx3
              · intro _
                (repeat' (first | exact trivial | exact fun _ => rfl | exact rfl | refine And.intro ?_ ?_))
                all_goals first | (first | omega | exact u0 (by omega) | exact u1 (by omega) | exact u1 ⟨by omega, by omega⟩ | exact un (by omega) | exact fun hh => hh | exact fun hh => absurd hh (by decide) | exact fun hh => congrArg not hh | exact fun hh => Bool.noConfusion (show true = false from hh) | exact fun hh => Bool.noConfusion (show false = true from hh)) | skip
                refine ⟨k + 1, ⟨hki, nextk fun h2 => ?_⟩, by omega, ?_⟩
                · rw [hb] at h2
                  cases h2.2
                · exact ent_tau [0, 1, 2, 3, 4, 5] ⟨by (repeat' (first | exact trivial | exact rfl | exact fun _ _ => rfl | exact Or.inl rfl | refine And.intro ?_ ?_)), by (repeat' (first | exact trivial | exact rfl | exact congrArg (SV.int .i64) (Int.natCast_succ _).symm | exact congrArg (SV.int .u64) (Int.natCast_succ _).symm | refine And.intro ?_ ?_)), rfl⟩
          · intro hg
            have hg' : gB none (wB true (decide ([L1 0, L1 1, L1 2, L1 3, L1 4, L1 5, L1 6].getD ((k : Nat) : Int).toNat 0 = (x : Int)))) = false := hg
            rw [hge] at hg'
            have hg2 : ¬ L k = x := by simpa [gB, wB] using hg'
            have hge2 : ¬ [L1 0, L1 1, L1 2, L1 3, L1 4, L1 5, L1 6].getD ((k : Nat) : Int).toNat 0 = (x : Int) := fun e => hg2 (hge.symm.trans e)
            (repeat' (first | exact trivial | exact fun _ => rfl | exact rfl | refine And.intro ?_ ?_))
            all_goals first | (first | omega | exact u0 (by omega) | exact u1 (by omega) | exact u1 ⟨by omega, by omega⟩ | exact un (by omega) | exact fun hh => hh | exact fun hh => absurd hh (by decide) | exact fun hh => congrArg not hh | exact fun hh => Bool.noConfusion (show true = false from hh) | exact fun hh => Bool.noConfusion (show false = true from hh)) | exact fun hh => absurd (hg.symm.trans hh) (by decide) | exact fun hh => absurd (hh.symm.trans hg) (by decide) | skip
            all_goals intro hx2
            all_goals first
              | (exfalso
                 have hx3 : (bif decide ([L1 0, L1 1, L1 2, L1 3, L1 4, L1 5, L1 6].getD ((k : Nat) : Int).toNat 0 = (x : Int)) then false else false) = true := hx2
                 rw [decide_eq_false hge2] at hx3
                 cases hx3
                 done)
              | (exfalso
                 have hx3 : decide ([L1 0, L1 1, L1 2, L1 3, L1 4, L1 5, L1 6].getD ((k : Nat) : Int).toNat 0 = (x : Int)) = true := hx2
                 exact hge2 (of_decide_eq_true hx3))
              | skip
            (repeat' (first | exact trivial | exact fun _ => rfl | exact rfl | refine And.intro ?_ ?_))
            all_goals first | (first | omega | exact u0 (by omega) | exact u1 (by omega) | exact u1 ⟨by omega, by omega⟩ | exact un (by omega) | exact fun hh => hh | exact fun hh => absurd hh (by decide) | exact fun hh => congrArg not hh | exact fun hh => Bool.noConfusion (show true = false from hh) | exact fun hh => Bool.noConfusion (show false = true from hh)) | skip
            refine ⟨k + 1, ⟨hki, nextk fun h2 => hg2 h2.1⟩, by omega, ?_⟩
            exact ent_tau [0, 1, 2, 3, 4, 5] ⟨by (repeat' (first | exact trivial | exact rfl | exact fun _ _ => rfl | exact Or.inl rfl | refine And.intro ?_ ?_)), by (repeat' (first | exact trivial | exact rfl | exact congrArg (SV.int .i64) (Int.natCast_succ _).symm | exact congrArg (SV.int .u64) (Int.natCast_succ _).symm | refine And.intro ?_ ?_)), rfl⟩
        · have e : k = i := by
            have := of_decide_eq_false hlk
            omega
          subst e
          have hfit := fits_of hnk
          have enx : nextW h s N r (HD.ofP k L) x = h.ways s HD.full N r (HD.ofP k L ++ [(x : Int)]) := by
            unfold nextW
            rw [hfit]
          have eof : HD.ofP (k + 1) (upd L1 k x) = HD.ofP k L ++ [(x : Int)] := by
            rw [ofP_upd, ofP_congr hag]
          have cI := IH (upd L1 k x) (by omega)
          rw [show (((k + 1 : Nat)) : Int) = (k : Int) + 1 from rfl] at cI
          (repeat' (first | exact trivial | exact fun _ => rfl | exact rfl | refine And.intro ?_ ?_))
          all_goals first | (first | omega | exact u0 (by omega) | exact u1 (by omega) | exact u1 ⟨by omega, by omega⟩ | exact un (by omega) | exact fun hh => hh | exact fun hh => absurd hh (by decide) | exact fun hh => congrArg not hh | exact fun hh => Bool.noConfusion (show true = false from hh) | exact fun hh => Bool.noConfusion (show false = true from hh)) | skip
          refine CallP.frameH cI [0, 1, 2, 3, 4, 5] (by (repeat' (first | exact trivial | exact rfl | exact fun _ _ => rfl | exact fun _ _ _ _ => rfl | exact Or.inl rfl | exact Or.inr rfl | refine And.intro ?_ ?_))) rfl ?_
          rintro ce h' ⟨b, L3, rfl, rfl, hag3, hb⟩
          refine ⟨rfl, ?_⟩
          have hag4 : ∀ k', k' < k → L3 k' = L k' := fun k' hk' => by
            rw [hag3 k' (by omega)]
            unfold upd
            rw [if_neg (by omega)]
            exact hag k' hk'
          rw [er2, eof, ← enx] at hb
          cases b with
          | true =>
            obtain ⟨A, hA, hA2⟩ := hb
            (repeat' (first | exact trivial | exact fun _ => rfl | exact rfl | refine And.intro ?_ ?_))
            all_goals first | (first | omega | exact u0 (by omega) | exact u1 (by omega) | exact u1 ⟨by omega, by omega⟩ | exact un (by omega) | exact fun hh => hh | exact fun hh => absurd hh (by decide) | exact fun hh => congrArg not hh | exact fun hh => Bool.noConfusion (show true = false from hh) | exact fun hh => Bool.noConfusion (show false = true from hh)) | skip
            intro _
            (repeat' (first | exact trivial | exact fun _ => rfl | exact rfl | refine And.intro ?_ ?_))
            refine ⟨_, _, ⟨true, L3, rfl, rfl, hag4, A, ?_, hA2⟩, ?_⟩
            · rw [er, ways_next]
              exact flat_head hA hxN hno
            · exact ent_tau [0, 1, 2, 3, 4, 5] ⟨by (repeat' (first | exact trivial | exact rfl | exact fun _ _ => rfl | exact Or.inl rfl | refine And.intro ?_ ?_)), by (repeat' (first | exact trivial | exact rfl | exact congrArg (SV.int .i64) (Int.natCast_succ _).symm | exact congrArg (SV.int .u64) (Int.natCast_succ _).symm | refine And.intro ?_ ?_)), rfl⟩
          | false =>
            (repeat' (first | exact trivial | exact fun _ => rfl | exact rfl | refine And.intro ?_ ?_))
            all_goals first | (first | omega | exact u0 (by omega) | exact u1 (by omega) | exact u1 ⟨by omega, by omega⟩ | exact un (by omega) | exact fun hh => hh | exact fun hh => absurd hh (by decide) | exact fun hh => congrArg not hh | exact fun hh => Bool.noConfusion (show true = false from hh) | exact fun hh => Bool.noConfusion (show false = true from hh)) | skip
            intro _
            (repeat' (first | exact trivial | exact fun _ => rfl | exact rfl | refine And.intro ?_ ?_))
            all_goals first | (first | omega | exact u0 (by omega) | exact u1 (by omega) | exact u1 ⟨by omega, by omega⟩ | exact un (by omega) | exact fun hh => hh | exact fun hh => absurd hh (by decide) | exact fun hh => congrArg not hh | exact fun hh => Bool.noConfusion (show true = false from hh) | exact fun hh => Bool.noConfusion (show false = true from hh)) | skip
            refine ⟨(x + 1, L3), ⟨hxN, hag4, next hb⟩, by simp only; omega, ?_⟩
            exact ent_tau [0, 1, 2, 3, 4, 5] ⟨by (repeat' (first | exact trivial | exact rfl | exact fun _ _ => rfl | exact Or.inl rfl | refine And.intro ?_ ?_)), by (repeat' (first | exact trivial | exact rfl | exact congrArg (SV.int .i64) (Int.natCast_succ _).symm | exact congrArg (SV.int .u64) (Int.natCast_succ _).symm | refine And.intro ?_ ?_)), rfl⟩
      · have e : x = N := by
          have := of_decide_eq_false hlx
          simp only at this
          omega
        subst e
        (repeat' (first | exact trivial | exact fun _ => rfl | exact rfl | refine And.intro ?_ ?_))
        all_goals first | (first | omega | exact u0 (by omega) | exact u1 (by omega) | exact u1 ⟨by omega, by omega⟩ | exact un (by omega) | exact fun hh => hh | exact fun hh => absurd hh (by decide) | exact fun hh => congrArg not hh | exact fun hh => Bool.noConfusion (show true = false from hh) | exact fun hh => Bool.noConfusion (show false = true from hh)) | skip
        refine ⟨_, _, ⟨false, L1, rfl, rfl, hag, ?_⟩, ?_⟩
        · rw [er, ways_next]
          exact flat_none hno
        · exact ent_tau [0, 1, 2, 3, 4, 5] ⟨by (repeat' (first | exact trivial | exact rfl | exact fun _ _ => rfl | exact Or.inl rfl | refine And.intro ?_ ?_)), by (repeat' (first | exact trivial | exact rfl | exact congrArg (SV.int .i64) (Int.natCast_succ _).symm | exact congrArg (SV.int .u64) (Int.natCast_succ _).symm | refine And.intro ?_ ?_)), rfl⟩
end Go.Proofs.Ytgofhjihkinknaa
/-
  Contracts: Fewest.
-/
namespace Go.Proofs.Ytgofhjihkinknaa
open Go Go.Sy Kuhn
set_option linter.unusedSimpArgs false
set_option maxRecDepth 100000
set_option maxHeartbeats 4000000
attribute [local irreducible] CallP CodeP Ent YieldP
attribute [local irreducible] HD.ch maskO

theorem full_bits (h : HD) (s : Bool) : h.need s (fun i => h.every.testBit i) = h.few s := by
  have e : h.okN (fun i => h.every.testBit i) = h.okN HD.full := by
    funext i
    simp only [HD.okN, HD.full, HD.every_bit]
    cases decide (i < h.n) <;> rfl
  have e2 : h.adj s (fun i => h.every.testBit i) = h.adj s HD.full := by
    funext a r
    simp only [HD.adj, HD.full, HD.every_bit]
    cases decide (a < h.n) <;> cases decide (r < h.n) <;> rfl
  unfold HD.few HD.need
  rw [e, e2]
theorem few_le (h : HD) (s : Bool) : h.few s ≤ 7 := by
  unfold HD.few HD.need
  have := cnt_bnd (h.okN HD.full) 7
  omega
theorem plan_is {h : HD} (hv : h.Valid) (s : Bool) : (h.ways s HD.full (h.few s) h.n []).head? = some (h.plan s) := by
  have hne := (HD.ways_ne hv s HD.full (h.few s)).2 (Nat.le_refl _)
  unfold HD.plan
  cases hw : h.ways s HD.full (h.few s) h.n [] with
  | nil => exact absurd hw hne
  | cons A l => rfl
/-- The plan as it lies. -/
def plF (h : HD) (s : Bool) (k : Nat) : List SV := [.int .i64 ((h.plan s).getD k 0)]
theorem t26e (h : HD) (hv : ¬ h.Valid) (s : Bool) : CallP Try.prog 26 [HD.A h, .bool s] (HD.H h) (Ret (.tup [.int .i64 0, .snil, .int .i64 1]) (HD.H h)) := by
  have c47 := t47_0 h 65 (.inl rfl) true fun hv => t65 h
  refine callDR (E := E) E_ok Try.func26 rfl (g := 46) (k1 := 5) (k2 := 2) Try.func46 isrec46 rfl ?_
  (repeat' (first | exact trivial | exact fun _ => rfl | exact rfl | refine And.intro ?_ ?_))
  refine CallP.frameH c47 [0] (by (repeat' (first | exact trivial | exact rfl | exact fun _ _ => rfl | exact fun _ _ _ _ => rfl | exact Or.inl rfl | exact Or.inr rfl | refine And.intro ?_ ?_))) rfl ?_
  rintro ce h' (⟨hv', hc1, rfl, rfl⟩ | ⟨hv', rfl, rfl⟩ | ⟨hv', hc1, rfl, rfl⟩)
  · exact absurd hv' hv
  · refine ⟨rfl, ?_⟩
    (repeat' (first | exact trivial | exact fun _ => rfl | exact rfl | refine And.intro ?_ ?_))
    all_goals first | (first | omega | exact u0 (by omega) | exact u1 (by omega) | exact u1 ⟨by omega, by omega⟩ | exact un (by omega) | exact fun hh => hh | exact fun hh => absurd hh (by decide) | exact fun hh => congrArg not hh | exact fun hh => Bool.noConfusion (show true = false from hh) | exact fun hh => Bool.noConfusion (show false = true from hh)) | skip
    intro _
    (repeat' (first | exact trivial | exact fun _ => rfl | exact rfl | refine And.intro ?_ ?_))
    all_goals first | (first | omega | exact u0 (by omega) | exact u1 (by omega) | exact u1 ⟨by omega, by omega⟩ | exact un (by omega) | exact fun hh => hh | exact fun hh => absurd hh (by decide) | exact fun hh => congrArg not hh | exact fun hh => Bool.noConfusion (show true = false from hh) | exact fun hh => Bool.noConfusion (show false = true from hh)) | skip
    intro _
    (repeat' (first | exact trivial | exact fun _ => rfl | exact rfl | refine And.intro ?_ ?_))
    all_goals first | (first | omega | exact u0 (by omega) | exact u1 (by omega) | exact u1 ⟨by omega, by omega⟩ | exact un (by omega) | exact fun hh => hh | exact fun hh => absurd hh (by decide) | exact fun hh => congrArg not hh | exact fun hh => Bool.noConfusion (show true = false from hh) | exact fun hh => Bool.noConfusion (show false = true from hh)) | skip
    refine ⟨_, _, ⟨rfl, rfl⟩, ?_⟩
    exact ent_tau [0] ⟨by (repeat' (first | exact trivial | exact rfl | exact fun _ _ => rfl | exact Or.inl rfl | refine And.intro ?_ ?_)), by (repeat' (first | exact trivial | exact rfl | exact congrArg (SV.int .i64) (Int.natCast_succ _).symm | exact congrArg (SV.int .u64) (Int.natCast_succ _).symm | refine And.intro ?_ ?_)), rfl⟩
  · exact absurd hv' hv
theorem few_end {h : HD} (hv : h.Valid) (s : Bool) {b : Bool} {L' : Nat → Int} (hb : match b with
    | true => ∃ A, (h.ways s HD.full (h.few s) (h.n - 0) (HD.ofP 0 fun _ => 0)).head? = some A ∧ ∀ k, k < h.n → L' k = A.getD k 0
    | false => h.ways s HD.full (h.few s) (h.n - 0) (HD.ofP 0 fun _ => 0) = []) : b = true ∧ ∀ k, k < h.n → L' k = (h.plan s).getD k 0 := by
  have hp := plan_is hv s
  have e : HD.ofP 0 (fun _ => 0) = [] := rfl
  rw [Nat.sub_zero, e] at hb
  cases b with
  | false =>
    simp only at hb
    rw [hb] at hp
    cases hp
  | true =>
    obtain ⟨A, hA, hA2⟩ := hb
    rw [hp] at hA
    cases hA
    exact ⟨rfl, hA2⟩
theorem cp_row {h : HD} {s : Bool} {L' : Nat → Int} (hn : h.n ≤ 7) (hL : ∀ k, k < h.n → L' k = (h.plan s).getD k 0) {k : Nat} (hk : k < h.n) (z : List SV) :
    selL (decide (0 ≤ k ∧ k < 0 + Nat.min 7 h.n)) [.int .i64 ([L' 0, L' 1, L' 2, L' 3, L' 4, L' 5, L' 6].getD (0 + (k - 0)) 0)] z = plF h s k := by
  have e : Nat.min 7 h.n = h.n := Nat.min_eq_right hn
  rw [e, Nat.zero_add, Nat.zero_add, Nat.sub_zero, decide_eq_true ⟨Nat.zero_le _, hk⟩, selL_true, get7 L' k (by omega), hL k hk]
  rfl
theorem t26 (h : HD) (hv : h.Valid) (s : Bool) : CallP Try.prog 26 [HD.A h, .bool s] (HD.H h) (Ret (.tup [.int .i64 (h.few s : Nat), .slice 1 1 0 h.n h.n, .int .i64 0]) (HD.H h ++ [some (.arr 1 h.n h.n (plF h s))])) := by
  have hn7 := hv.2.1
  have hfew := few_le h s
  have c47 := t47_0 h 65 (.inl rfl) true fun hv => t65 h
  have c66 := t66 h hv s h.every (HD.every_lt hn7) (fun i hi => by rw [HD.every_bit] at hi; exact of_decide_eq_true hi)
  rw [full_bits] at c66
  have c68 := t68 h hv s (h.few s) hfew h.n 0 (fun _ => 0) (by omega)
  refine callDR (E := E) E_ok Try.func26 rfl (g := 46) (k1 := 5) (k2 := 2) Try.func46 isrec46 rfl ?_
  (repeat' (first | exact trivial | exact fun _ => rfl | exact rfl | refine And.intro ?_ ?_))
  refine CallP.frameH c47 [0] (by (repeat' (first | exact trivial | exact rfl | exact fun _ _ => rfl | exact fun _ _ _ _ => rfl | exact Or.inl rfl | exact Or.inr rfl | refine And.intro ?_ ?_))) rfl ?_
  rintro ce h' (⟨hv', hc1, rfl, rfl⟩ | ⟨hv', rfl, rfl⟩ | ⟨hv', hc1, rfl, rfl⟩)
  · refine ⟨rfl, ?_⟩
    (repeat' (first | exact trivial | exact fun _ => rfl | exact rfl | refine And.intro ?_ ?_))
    refine drawP E_ok [3] pl26_3 (by kernel_rfl) ?_
    (repeat' (first | exact trivial | exact fun _ => rfl | exact rfl | refine And.intro ?_ ?_))
    all_goals refine (t56 s).use [] ?_ trivial rfl
    all_goals (repeat' (first | exact trivial | exact fun _ => rfl | exact rfl | refine And.intro ?_ ?_))
    all_goals refine (t50 h hv s).use [0] ?_ (by (repeat' (first | exact trivial | exact rfl | exact fun _ _ => rfl | exact fun _ _ _ _ => rfl | exact Or.inl rfl | exact Or.inr rfl | refine And.intro ?_ ?_))) rfl
    all_goals (repeat' (first | exact trivial | exact fun _ => rfl | exact rfl | refine And.intro ?_ ?_))
    all_goals refine drawP E_ok [3, 4] pl26_4 (by kernel_rfl) ?_
    all_goals (repeat' (first | exact trivial | exact fun _ => rfl | exact rfl | refine And.intro ?_ ?_))
    all_goals refine (t67 h hn7).use [0] ?_ (by (repeat' (first | exact trivial | exact rfl | exact fun _ _ => rfl | exact fun _ _ _ _ => rfl | exact Or.inl rfl | exact Or.inr rfl | refine And.intro ?_ ?_))) rfl
    all_goals (repeat' (first | exact trivial | exact fun _ => rfl | exact rfl | refine And.intro ?_ ?_))
    all_goals refine c66.use [] ?_ trivial rfl
    all_goals (repeat' (first | exact trivial | exact fun _ => rfl | exact rfl | refine And.intro ?_ ?_))
    all_goals refine CallP.frameH c68 [0, 3, 5, 6, 4, 7] (by (repeat' (first | exact trivial | exact rfl | exact fun _ _ => rfl | exact fun _ _ _ _ => rfl | exact Or.inl rfl | exact Or.inr rfl | refine And.intro ?_ ?_))) rfl ?_
    all_goals rintro ce h' ⟨b, L', rfl, rfl, _, hb⟩
    all_goals refine ⟨rfl, ?_⟩
    all_goals obtain ⟨rfl, hL⟩ : b = true ∧ ∀ k, k < h.n → L' k = (h.plan s).getD k 0 := few_end hv s hb
    all_goals (repeat' (first | exact trivial | exact fun _ => rfl | exact rfl | refine And.intro ?_ ?_))
    all_goals first | (first | omega | exact u0 (by omega) | exact u1 (by omega) | exact u1 ⟨by omega, by omega⟩ | exact un (by omega) | exact fun hh => hh | exact fun hh => absurd hh (by decide) | exact fun hh => congrArg not hh | exact fun hh => Bool.noConfusion (show true = false from hh) | exact fun hh => Bool.noConfusion (show false = true from hh)) | exact (show (8 : Int) * h.n ≤ 281474976710656 by omega) | skip
    all_goals intro _
    all_goals (repeat' (first | exact trivial | exact fun _ => rfl | exact rfl | refine And.intro ?_ ?_))
    all_goals first | (first | omega | exact u0 (by omega) | exact u1 (by omega) | exact u1 ⟨by omega, by omega⟩ | exact un (by omega) | exact fun hh => hh | exact fun hh => absurd hh (by decide) | exact fun hh => congrArg not hh | exact fun hh => Bool.noConfusion (show true = false from hh) | exact fun hh => Bool.noConfusion (show false = true from hh)) | skip
    all_goals refine ⟨_, _, ⟨rfl, rfl⟩, ?_⟩
    all_goals refine ent_tau [0, 8] ⟨?_, ?_, rfl⟩
    all_goals first | (repeat' (first | exact trivial | exact rfl | exact fun _ _ => rfl | exact fun _ _ _ _ => rfl | exact Or.inl rfl | exact Or.inr rfl | refine And.intro ?_ ?_)) | skip
    all_goals first | exact fun k hk => cp_row hn7 hL hk _ | (repeat' (first | exact trivial | exact rfl | exact congrArg (SV.int .i64) (Int.natCast_succ _).symm | exact congrArg (SV.int .u64) (Int.natCast_succ _).symm | refine And.intro ?_ ?_))
  · exact absurd hv hv'
  · cases hc1
end Go.Proofs.Ytgofhjihkinknaa
/-
  The example's horses.
-/
namespace Go.Proofs.Ytgofhjihkinknaa
open Go Go.Sy Kuhn
set_option linter.unusedSimpArgs false
set_option maxRecDepth 100000
set_option maxHeartbeats 4000000
attribute [local irreducible] CallP CodeP Ent YieldP

def exH : HD := ⟨1, 4, fun k => [0, 8, 10, 16].getD k 0, fun k => [0, 3, 0, 6].getD k 0, fun k => [4, 4, 5, 3].getD k 0, fun k => [6, 4, 6, 3].getD k 0, true, 4⟩
theorem ex_valid : exH.Valid := by
  unfold HD.Valid HD.okMv exH
  decide
theorem ex_few1 : exH.few true = 2 := by decide +kernel
theorem ex_few0 : exH.few false = 2 := by decide +kernel
theorem ex_plan1 : exH.plan true = [0, 1, 0, 1] := by decide +kernel
theorem ex_plan0 : exH.plan false = [0, 0, 1, 0] := by decide +kernel
theorem ex_prf : prfS exH true = 3 := by decide +kernel
theorem ex_lve : lveS exH true 1 = 5 := by decide +kernel
def exP : PD := ⟨4, fun k => [0, 0, 1, 0].getD k 0, true, 4⟩
def exQ : PD := ⟨4, fun _ => 2, true, 4⟩
theorem ex_pok : pok exH exP = true := by decide +kernel
theorem ex_chk : HD.chk exH false exQ = (1, 2, 0) := by
  refine chk_is (.inr (.inr ⟨ex_valid, by decide +kernel, .inl ⟨1, 2, ⟨by decide, by decide, by decide +kernel, by decide +kernel⟩, fun i' k' h1 h2 h3 => ?_, rfl⟩⟩))
  by_cases c : i' = 0
  · exfalso
    subst c
    have h4 := h3.2
    have h5 : ∀ k, k < 4 → 0 < k → exH.apart false 0 k = false := by decide +kernel
    rw [h5 k' h2 h1] at h4
    cases h4
  · have : i' = 1 ∨ 1 < i' := by omega
    rcases this with e | e
    · exact .inr ⟨e.symm, by omega⟩
    · exact .inl e
theorem ex_fol : HD.fol exH 0 1 = (1, 0) := by
  unfold HD.fol
  rw [if_pos ex_valid]
  decide +kernel
theorem ex_bus : HD.bus exH 5 = (0, 1, 0) := by
  unfold HD.bus
  rw [if_pos ex_valid]
  decide +kernel
theorem t38 (a b : Int) : CallP Try.prog 38 [.int .i64 a, .int .i64 b] [] (Ret (.agg [.int .i64 a, .int .i64 b]) []) := by
  refine callR (E := E) E_ok Try.func38 rfl ?_
  (repeat' (first | exact trivial | exact fun _ => rfl | exact rfl | refine And.intro ?_ ?_))
  exact ent_tau [] ⟨by (repeat' (first | exact trivial | exact rfl | exact fun _ _ => rfl | exact fun _ _ _ _ => rfl | exact Or.inl rfl | exact Or.inr rfl | refine And.intro ?_ ?_)), by (repeat' (first | exact trivial | exact rfl | exact congrArg (SV.int .i64) (Int.natCast_succ _).symm | exact congrArg (SV.int .u64) (Int.natCast_succ _).symm | refine And.intro ?_ ?_)), rfl⟩
theorem t79 (a b c d : Int) : CallP Try.prog 79 [.int .i64 a, .int .i64 b, .int .i64 c, .int .i64 d] [] (Ret (.agg [.int .i64 a, .int .i64 b, .int .i64 c, .int .i64 d]) []) := by
  refine callR (E := E) E_ok Try.func79 rfl ?_
  (repeat' (first | exact trivial | exact fun _ => rfl | exact rfl | refine And.intro ?_ ?_))
  refine (t38 c d).use [] ?_ trivial rfl
  (repeat' (first | exact trivial | exact fun _ => rfl | exact rfl | refine And.intro ?_ ?_))
  exact ent_tau [] ⟨by (repeat' (first | exact trivial | exact rfl | exact fun _ _ => rfl | exact fun _ _ _ _ => rfl | exact Or.inl rfl | exact Or.inr rfl | refine And.intro ?_ ?_)), by (repeat' (first | exact trivial | exact rfl | exact congrArg (SV.int .i64) (Int.natCast_succ _).symm | exact congrArg (SV.int .u64) (Int.natCast_succ _).symm | refine And.intro ?_ ?_)), rfl⟩
theorem four {P : Nat → Prop} (h0 : P 0) (h1 : P 1) (h2 : P 2) (h3 : P 3) : ∀ k, k < 4 → P k
  | 0, _ => h0
  | 1, _ => h1
  | 2, _ => h2
  | 3, _ => h3
  | k + 4, h => absurd h (by omega)
theorem t45 : CallP Try.prog 45 [] [] (Ret (HD.A exH) [some (.arr 4 4 4 (HD.F exH))]) := by
  refine callR (E := E) E_ok Try.func45 rfl ?_
  (repeat' (first | exact trivial | exact fun _ => rfl | exact rfl | refine And.intro ?_ ?_))
  refine (t79 _ _ _ _).use [] ?_ trivial rfl
  (repeat' (first | exact trivial | exact fun _ => rfl | exact rfl | refine And.intro ?_ ?_))
  refine (t79 _ _ _ _).use [] ?_ trivial rfl
  (repeat' (first | exact trivial | exact fun _ => rfl | exact rfl | refine And.intro ?_ ?_))
  refine (t79 _ _ _ _).use [] ?_ trivial rfl
  (repeat' (first | exact trivial | exact fun _ => rfl | exact rfl | refine And.intro ?_ ?_))
  refine (t79 _ _ _ _).use [] ?_ trivial rfl
  (repeat' (first | exact trivial | exact fun _ => rfl | exact rfl | refine And.intro ?_ ?_))
  all_goals first | (first | omega | exact u0 (by omega) | exact u1 (by omega) | exact u1 ⟨by omega, by omega⟩ | exact un (by omega) | exact fun hh => hh | exact fun hh => absurd hh (by decide) | exact fun hh => congrArg not hh | exact fun hh => Bool.noConfusion (show true = false from hh) | exact fun hh => Bool.noConfusion (show false = true from hh)) | skip
  refine Ent.trans (ent_tau (t := ⟨[some (none, .agg [.int .i64 1, .slice 0 4 0 4 4])], [some (.arr 4 4 4 (HD.F exH))], []⟩) [1] ⟨?_, by (repeat' (first | exact trivial | exact rfl | exact congrArg (SV.int .i64) (Int.natCast_succ _).symm | exact congrArg (SV.int .u64) (Int.natCast_succ _).symm | refine And.intro ?_ ?_)), rfl⟩) (entV fun η => by simp [den, denL, HD.A, exH])
  (repeat' (first | exact trivial | exact rfl | exact fun _ _ => rfl | exact fun _ _ _ _ => rfl | exact Or.inl rfl | exact Or.inr rfl | refine And.intro ?_ ?_))
  exact four rfl rfl rfl rfl
def rowI (l : List Int) (k : Nat) : List SV := [.int .i64 (l.getD k 0)]
theorem c30a : CallP Try.prog 30 [.slice 0 1 0 4 4, .slice 1 1 0 4 4] [some (.roa 1 4 (plF exH true)), some (.roa 1 4 (rowI [0, 1, 0, 1]))] (Ret (.bool true) [some (.roa 1 4 (plF exH true)), some (.roa 1 4 (rowI [0, 1, 0, 1]))]) := by
  have := t30 4 4 4 4 (fun k => (exH.plan true).getD k 0) (fun k => [0, 1, 0, 1].getD k 0) (by decide) (by decide)
  rw [show (decide (4 = 4) && eqN (fun k => (exH.plan true).getD k 0) (fun k => [0, 1, 0, 1].getD k 0) 4) = true by rw [ex_plan1]; decide] at this
  exact this
theorem c30b : CallP Try.prog 30 [.slice 0 1 0 4 4, .slice 1 1 0 4 4] [some (.roa 1 4 (plF exH false)), some (.roa 1 4 (rowI [0, 0, 1, 0]))] (Ret (.bool true) [some (.roa 1 4 (plF exH false)), some (.roa 1 4 (rowI [0, 0, 1, 0]))]) := by
  have := t30 4 4 4 4 (fun k => (exH.plan false).getD k 0) (fun k => [0, 0, 1, 0].getD k 0) (by decide) (by decide)
  rw [show (decide (4 = 4) && eqN (fun k => (exH.plan false).getD k 0) (fun k => [0, 0, 1, 0].getD k 0) 4) = true by rw [ex_plan0]; decide] at this
  exact this
def rowS (k : Nat) : List SV := [.int .i64 0, .int .i64 ([0, 1, 0, 0].getD k 0)]
theorem c24a : CallP Try.prog 24 [.slice 0 2 0 4 4, .slice 1 2 0 4 4] [some (.roa 2 4 (latF exH exP)), some (.roa 2 4 rowS)] (Ret (.bool true) [some (.roa 2 4 (latF exH exP)), some (.roa 2 4 rowS)]) := by
  have := t24 4 4 4 4 (fun k => T59 exH exP false k - exH.at' k) (fun k => T59 exH exP true k - exH.at' k) (fun _ => 0) (fun k => [0, 1, 0, 0].getD k 0) (by decide) (by decide)
  rw [show (decide (4 = 4) && (eqN (fun k => T59 exH exP false k - exH.at' k) (fun _ => 0) 4 && eqN (fun k => T59 exH exP true k - exH.at' k) (fun k => [0, 1, 0, 0].getD k 0) 4)) = true by decide +kernel] at this
  exact this
theorem t15 : CallP Try.prog 15 [] [] (Ret (.bool true) []) := by
  have c16 := t16 exH 0 1
  rw [ex_fol] at c16
  have c18 := t18 exH exQ (by decide) false
  rw [ex_chk] at c18
  have c261 := t26 exH ex_valid true
  rw [ex_few1] at c261
  have c260 := t26 exH ex_valid false
  rw [ex_few0] at c260
  have c28 := t28 exH ex_valid true
  rw [ex_prf] at c28
  have c20 := t20 exH exP (by decide) _ _ (.inl ⟨ex_valid, ex_pok, rfl, rfl⟩)
  have c22 := t22 exH 5
  rw [ex_bus] at c22
  have c31 := t31 exH ex_valid true 1 (by decide)
  rw [ex_lve] at c31
  refine callR (E := E) E_ok Try.func15 rfl ?_
  (repeat' (first | exact trivial | exact fun _ => rfl | exact rfl | refine And.intro ?_ ?_))
  refine t45.use [] ?_ trivial rfl
  (repeat' (first | exact trivial | exact fun _ => rfl | exact rfl | refine And.intro ?_ ?_))
  refine c16.use [0] ?_ (by (repeat' (first | exact trivial | exact rfl | exact fun _ _ => rfl | exact fun _ _ _ _ => rfl | exact Or.inl rfl | exact Or.inr rfl | refine And.intro ?_ ?_))) rfl
  (repeat' (first | exact trivial | exact fun _ => rfl | exact rfl | refine And.intro ?_ ?_))
  all_goals first | (first | omega | exact u0 (by omega) | exact u1 (by omega) | exact u1 ⟨by omega, by omega⟩ | exact un (by omega) | exact fun hh => hh | exact fun hh => absurd hh (by decide) | exact fun hh => congrArg not hh | exact fun hh => Bool.noConfusion (show true = false from hh) | exact fun hh => Bool.noConfusion (show false = true from hh)) | skip
  refine CallP.argsD (args' := [HD.A exH, .osl true 2 1 4 4, .bool false]) (fun η => by simp [den, denL, HD.A, ofVal]) ?_
  refine c18.use [0, 2] ?_ (by (repeat' (first | exact trivial | exact rfl | exact fun _ _ => rfl | exact fun _ _ _ _ => rfl | exact Or.inl rfl | exact Or.inr rfl | refine And.intro ?_ ?_)); all_goals exact four rfl rfl rfl rfl) rfl
  (repeat' (first | exact trivial | exact fun _ => rfl | exact rfl | refine And.intro ?_ ?_))
  refine c261.use [0] ?_ (by (repeat' (first | exact trivial | exact rfl | exact fun _ _ => rfl | exact fun _ _ _ _ => rfl | exact Or.inl rfl | exact Or.inr rfl | refine And.intro ?_ ?_))) rfl
  (repeat' (first | exact trivial | exact fun _ => rfl | exact rfl | refine And.intro ?_ ?_))
  refine c260.use [0] ?_ (by (repeat' (first | exact trivial | exact rfl | exact fun _ _ => rfl | exact fun _ _ _ _ => rfl | exact Or.inl rfl | exact Or.inr rfl | refine And.intro ?_ ?_))) rfl
  (repeat' (first | exact trivial | exact fun _ => rfl | exact rfl | refine And.intro ?_ ?_))
  refine c28.use [0] ?_ (by (repeat' (first | exact trivial | exact rfl | exact fun _ _ => rfl | exact fun _ _ _ _ => rfl | exact Or.inl rfl | exact Or.inr rfl | refine And.intro ?_ ?_))) rfl
  (repeat' (first | exact trivial | exact fun _ => rfl | exact rfl | refine And.intro ?_ ?_))
  all_goals first | (first | omega | exact u0 (by omega) | exact u1 (by omega) | exact u1 ⟨by omega, by omega⟩ | exact un (by omega) | exact fun hh => hh | exact fun hh => absurd hh (by decide) | exact fun hh => congrArg not hh | exact fun hh => Bool.noConfusion (show true = false from hh) | exact fun hh => Bool.noConfusion (show false = true from hh)) | skip
  refine CallP.argsD (args' := [HD.A exH, .osl true 5 1 4 4]) (fun η => by simp [den, denL, HD.A]) ?_
  refine c20.use [0, 5] ?_ (by (repeat' (first | exact trivial | exact rfl | exact fun _ _ => rfl | exact fun _ _ _ _ => rfl | exact Or.inl rfl | exact Or.inr rfl | refine And.intro ?_ ?_)); all_goals exact four rfl rfl rfl rfl) rfl
  (repeat' (first | exact trivial | exact fun _ => rfl | exact rfl | refine And.intro ?_ ?_))
  refine c22.use [0] ?_ (by (repeat' (first | exact trivial | exact rfl | exact fun _ _ => rfl | exact fun _ _ _ _ => rfl | exact Or.inl rfl | exact Or.inr rfl | refine And.intro ?_ ?_))) rfl
  (repeat' (first | exact trivial | exact fun _ => rfl | exact rfl | refine And.intro ?_ ?_))
  refine c31.use [0] ?_ (by (repeat' (first | exact trivial | exact rfl | exact fun _ _ => rfl | exact fun _ _ _ _ => rfl | exact Or.inl rfl | exact Or.inr rfl | refine And.intro ?_ ?_))) rfl
  clear c16 c18 c261 c260 c28 c20 c22 c31
  (repeat' (first | exact trivial | exact fun _ => rfl | exact rfl | refine And.intro ?_ ?_))
  all_goals first | (first | omega | exact u0 (by omega) | exact u1 (by omega) | exact u1 ⟨by omega, by omega⟩ | exact un (by omega) | exact fun hh => hh | exact fun hh => absurd hh (by decide) | exact fun hh => congrArg not hh | exact fun hh => Bool.noConfusion (show true = false from hh) | exact fun hh => Bool.noConfusion (show false = true from hh)) | skip
  intro _
  (repeat' (first | exact trivial | exact fun _ => rfl | exact rfl | refine And.intro ?_ ?_))
  all_goals first | (first | omega | exact u0 (by omega) | exact u1 (by omega) | exact u1 ⟨by omega, by omega⟩ | exact un (by omega) | exact fun hh => hh | exact fun hh => absurd hh (by decide) | exact fun hh => congrArg not hh | exact fun hh => Bool.noConfusion (show true = false from hh) | exact fun hh => Bool.noConfusion (show false = true from hh)) | skip
  intro _
  refine c30a.use [3, 8] ?_ (by (repeat' (first | exact trivial | exact rfl | exact fun _ _ => rfl | exact fun _ _ _ _ => rfl | exact Or.inl rfl | exact Or.inr rfl | refine And.intro ?_ ?_)); all_goals exact four rfl rfl rfl rfl) rfl
  (repeat' (first | exact trivial | exact fun _ => rfl | exact rfl | refine And.intro ?_ ?_))
  all_goals first | (first | omega | exact u0 (by omega) | exact u1 (by omega) | exact u1 ⟨by omega, by omega⟩ | exact un (by omega) | exact fun hh => hh | exact fun hh => absurd hh (by decide) | exact fun hh => congrArg not hh | exact fun hh => Bool.noConfusion (show true = false from hh) | exact fun hh => Bool.noConfusion (show false = true from hh)) | skip
  intro _
  (repeat' (first | exact trivial | exact fun _ => rfl | exact rfl | refine And.intro ?_ ?_))
  all_goals first | (first | omega | exact u0 (by omega) | exact u1 (by omega) | exact u1 ⟨by omega, by omega⟩ | exact un (by omega) | exact fun hh => hh | exact fun hh => absurd hh (by decide) | exact fun hh => congrArg not hh | exact fun hh => Bool.noConfusion (show true = false from hh) | exact fun hh => Bool.noConfusion (show false = true from hh)) | skip
  intro _
  refine c30b.use [4, 9] ?_ (by (repeat' (first | exact trivial | exact rfl | exact fun _ _ => rfl | exact fun _ _ _ _ => rfl | exact Or.inl rfl | exact Or.inr rfl | refine And.intro ?_ ?_)); all_goals exact four rfl rfl rfl rfl) rfl
  (repeat' (first | exact trivial | exact fun _ => rfl | exact rfl | refine And.intro ?_ ?_))
  all_goals first | (first | omega | exact u0 (by omega) | exact u1 (by omega) | exact u1 ⟨by omega, by omega⟩ | exact un (by omega) | exact fun hh => hh | exact fun hh => absurd hh (by decide) | exact fun hh => congrArg not hh | exact fun hh => Bool.noConfusion (show true = false from hh) | exact fun hh => Bool.noConfusion (show false = true from hh)) | skip
  intro _
  (repeat' (first | exact trivial | exact fun _ => rfl | exact rfl | refine And.intro ?_ ?_))
  all_goals first | (first | omega | exact u0 (by omega) | exact u1 (by omega) | exact u1 ⟨by omega, by omega⟩ | exact un (by omega) | exact fun hh => hh | exact fun hh => absurd hh (by decide) | exact fun hh => congrArg not hh | exact fun hh => Bool.noConfusion (show true = false from hh) | exact fun hh => Bool.noConfusion (show false = true from hh)) | skip
  refine drawP E_ok [6, 7] pl15_12 (by kernel_rfl) ?_
  (repeat' (first | exact trivial | exact fun _ => rfl | exact rfl | refine And.intro ?_ ?_))
  all_goals first | (first | omega | exact u0 (by omega) | exact u1 (by omega) | exact u1 ⟨by omega, by omega⟩ | exact un (by omega) | exact fun hh => hh | exact fun hh => absurd hh (by decide) | exact fun hh => congrArg not hh | exact fun hh => Bool.noConfusion (show true = false from hh) | exact fun hh => Bool.noConfusion (show false = true from hh)) | skip
  intro _
  refine (t38 0 0).use [] ?_ trivial rfl
  (repeat' (first | exact trivial | exact fun _ => rfl | exact rfl | refine And.intro ?_ ?_))
  all_goals first | (first | omega | exact u0 (by omega) | exact u1 (by omega) | exact u1 ⟨by omega, by omega⟩ | exact un (by omega) | exact fun hh => hh | exact fun hh => absurd hh (by decide) | exact fun hh => congrArg not hh | exact fun hh => Bool.noConfusion (show true = false from hh) | exact fun hh => Bool.noConfusion (show false = true from hh)) | skip
  intro _
  refine (t38 0 1).use [] ?_ trivial rfl
  (repeat' (first | exact trivial | exact fun _ => rfl | exact rfl | refine And.intro ?_ ?_))
  all_goals first | (first | omega | exact u0 (by omega) | exact u1 (by omega) | exact u1 ⟨by omega, by omega⟩ | exact un (by omega) | exact fun hh => hh | exact fun hh => absurd hh (by decide) | exact fun hh => congrArg not hh | exact fun hh => Bool.noConfusion (show true = false from hh) | exact fun hh => Bool.noConfusion (show false = true from hh)) | skip
  intro _
  refine (t38 0 0).use [] ?_ trivial rfl
  (repeat' (first | exact trivial | exact fun _ => rfl | exact rfl | refine And.intro ?_ ?_))
  all_goals first | (first | omega | exact u0 (by omega) | exact u1 (by omega) | exact u1 ⟨by omega, by omega⟩ | exact un (by omega) | exact fun hh => hh | exact fun hh => absurd hh (by decide) | exact fun hh => congrArg not hh | exact fun hh => Bool.noConfusion (show true = false from hh) | exact fun hh => Bool.noConfusion (show false = true from hh)) | skip
  intro _
  refine (t38 0 0).use [] ?_ trivial rfl
  (repeat' (first | exact trivial | exact fun _ => rfl | exact rfl | refine And.intro ?_ ?_))
  all_goals first | (first | omega | exact u0 (by omega) | exact u1 (by omega) | exact u1 ⟨by omega, by omega⟩ | exact un (by omega) | exact fun hh => hh | exact fun hh => absurd hh (by decide) | exact fun hh => congrArg not hh | exact fun hh => Bool.noConfusion (show true = false from hh) | exact fun hh => Bool.noConfusion (show false = true from hh)) | skip
  intro _
  (repeat' (first | exact trivial | exact fun _ => rfl | exact rfl | refine And.intro ?_ ?_))
  all_goals first | (first | omega | exact u0 (by omega) | exact u1 (by omega) | exact u1 ⟨by omega, by omega⟩ | exact un (by omega) | exact fun hh => hh | exact fun hh => absurd hh (by decide) | exact fun hh => congrArg not hh | exact fun hh => Bool.noConfusion (show true = false from hh) | exact fun hh => Bool.noConfusion (show false = true from hh)) | skip
  intro _
  refine c24a.use [6, 10] ?_ (by (repeat' (first | exact trivial | exact rfl | exact fun _ _ => rfl | exact fun _ _ _ _ => rfl | exact Or.inl rfl | exact Or.inr rfl | refine And.intro ?_ ?_)); all_goals exact four rfl rfl rfl rfl) rfl
  (repeat' (first | exact trivial | exact fun _ => rfl | exact rfl | refine And.intro ?_ ?_))
  all_goals first | (first | omega | exact u0 (by omega) | exact u1 (by omega) | exact u1 ⟨by omega, by omega⟩ | exact un (by omega) | exact fun hh => hh | exact fun hh => absurd hh (by decide) | exact fun hh => congrArg not hh | exact fun hh => Bool.noConfusion (show true = false from hh) | exact fun hh => Bool.noConfusion (show false = true from hh)) | skip
  intro _
  refine (t38 0 1).use [] ?_ trivial rfl
  (repeat' (first | exact trivial | exact fun _ => rfl | exact rfl | refine And.intro ?_ ?_))
  all_goals first | (first | omega | exact u0 (by omega) | exact u1 (by omega) | exact u1 ⟨by omega, by omega⟩ | exact un (by omega) | exact fun hh => hh | exact fun hh => absurd hh (by decide) | exact fun hh => congrArg not hh | exact fun hh => Bool.noConfusion (show true = false from hh) | exact fun hh => Bool.noConfusion (show false = true from hh)) | skip
  exact ent_tau [] ⟨by (repeat' (first | exact trivial | exact rfl | exact fun _ _ => rfl | exact fun _ _ _ _ => rfl | exact Or.inl rfl | exact Or.inr rfl | refine And.intro ?_ ?_)), by (repeat' (first | exact trivial | exact rfl | exact congrArg (SV.int .i64) (Int.natCast_succ _).symm | exact congrArg (SV.int .u64) (Int.natCast_succ _).symm | refine And.intro ?_ ?_)), rfl⟩
end Go.Proofs.Ytgofhjihkinknaa
