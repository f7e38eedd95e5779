/-
  Parts: Ud.
-/
import Derived.Test.YtgofhjihkinknaaK26
set_option linter.unusedVariables false
/-
  Contract: dipworksref02.plans, where there are no plans yet.
-/
namespace Go.Proofs.Ytgofhjihkinknaa
open Go Go.Sy Kuhn
set_option linter.unusedSimpArgs false
set_option maxRecDepth 100000
set_option maxHeartbeats 4000000
attribute [local irreducible] CallP CodeP Ent YieldP
attribute [local irreducible] HD.ch maskO pw

/-- What plans hands back: nil, or a list of plans behind the blocks P. -/
def K69n (P : SHeap) (j : Nat) (h : HD) : List (List Int) → CE → SHeap → Prop
  | [] => fun ce h' => ce = .ret .snil ∧ h' = P
  | v :: vs => fun ce h' => ∃ (cO : Nat) (cp : Nat → Nat), ((v :: vs).length ≤ cO ∧ cO ≤ 9223372036854775807) ∧ ce = .ret (.slice j 1 0 (v :: vs).length cO) ∧ h' = P ++ [some (.arr 1 (v :: vs).length cO (rowsC (j + 1) h.n cp)), some (poolW h.n (v :: vs))]
theorem push69b {h : HD} {cb : Nat} {L : List Int} {c : Nat} {go : Nat → List SV} (h2 : go 0 = [.slice 1 1 0 h.n cb]) :
    Ent 2 ⟨[some (none, .slice 2 1 0 1 c)], [some (.roa 4 h.n (HD.F h)), some (.arr 1 h.n cb (rowG L)), some (.arr 1 1 c go)], []⟩
      ⟨[some (none, .slice 2 1 0 1 c)], [some (.roa 4 h.n (HD.F h)), some .dead, some (.arr 1 1 c (rowsC 3 h.n fun _ => cb)), some (poolW h.n [L])], []⟩ := by
  refine Ent.trans (entPool (fun _ => h.n) fun _ _ => 0) ?_
  have := entPush (n := 2) (T := [some (none, .slice 2 1 0 1 c)]) (D := []) (H := [some (.roa 4 h.n (HD.F h)), some (.arr 1 h.n cb (rowG L)), some (.arr 1 1 c go), some (.pool true 0 (fun _ => h.n) fun _ _ => 0)]) (i := 1) (j := 3) (o := 2) (np := 0) (m := h.n) (cap := cb)
    (go' := rowsC 4 h.n fun _ => cb) (len' := fun _ => h.n) (get' := fun k m => ([L].getD k []).getD m 0) rfl rfl rfl (by decide)
    (fun q _ => rfl) (fun k _ => rfl) (Nat.le_refl _) (fun k hk q _ => absurd hk (Nat.not_lt_zero k))
    (fun η hp k hk => by
      obtain rfl : k = 0 := by omega
      rw [h2]
      simp only [rowsC, denL]
      rw [hp.new]
      rfl)
  refine Ent.trans this ?_
  exact ent_tau [0, 1, 2, 4] ⟨by (repeat' (first | exact trivial | exact rfl | exact fun _ _ => rfl | exact fun _ _ _ _ => rfl | exact Or.inl rfl | exact Or.inr rfl | refine And.intro ?_ ?_)), by (repeat' (first | exact trivial | exact rfl | exact congrArg (SV.int .i64) (Int.natCast_succ _).symm | exact congrArg (SV.int .u64) (Int.natCast_succ _).symm | refine And.intro ?_ ?_)), rfl⟩
theorem t69b {h : HD} (hv : h.Valid) {S M : Nat} (hS : S < 128) (hM : M ≤ 7) (s : Bool) : ∀ (r d : Nat), d + r = h.n → 1 ≤ d → ∀ (cb : Nat) (L : List Int), L.length = d →
    (d ≤ cb ∧ cb ≤ 9223372036854775807) → (h.ways s S.testBit M r L).length ≤ 1000000 →
    CallP Try.prog 69 [HD.A h, .int .i64 M, .int .i64 S, .bool s, .slice 1 1 0 d cb, .snil] [some (.roa 4 h.n (HD.F h)), some (.arr 1 d cb (rowG L))] (K69n [some (.roa 4 h.n (HD.F h)), some .dead] 2 h (h.ways s S.testBit M r L)) := by
  have hn7 := hv.2.1
  intro r
  induction r with
  | zero =>
    intro d hd hd1 cb L hL hcb hlen
    obtain rfl : d = h.n := by omega
    refine callK (E := E) E_ok Try.func69 rfl ?_
    refine And.intro ?_ (And.intro (fun hc => ?_) (fun hc => ?_))
    · (repeat' (first | exact trivial | exact fun _ => rfl | exact rfl | refine And.intro ?_ ?_))
    · (repeat' (first | exact trivial | exact fun _ => rfl | exact rfl | refine And.intro ?_ ?_))
      all_goals first | exact Nat.le_refl _ | decide | exact one1P rfl | (show 1 * 24 ≤ 140737488355328; omega) | skip
      intro c hc1 hc2
      (repeat' (first | exact trivial | exact fun _ => rfl | exact rfl | refine And.intro ?_ ?_))
      refine ⟨.ret (.slice 2 1 0 1 c), [some (.roa 4 h.n (HD.F h)), some .dead, some (.arr 1 1 c (rowsC 3 h.n fun _ => cb)), some (poolW h.n [L])], ⟨c, fun _ => cb, ⟨hc1, hc2⟩, rfl, rfl⟩, ?_⟩
      refine Ent.trans ?_ (push69b (go := fun _ => [.slice 1 1 0 h.n cb]) rfl)
      refine ent_tau [0, 1, 4] ⟨?_, ?_, rfl⟩
      · (repeat' (first | exact trivial | exact rfl | exact fun _ _ => rfl | exact fun _ _ _ _ => rfl | exact Or.inl rfl | exact Or.inr rfl | refine And.intro ?_ ?_))
        exact fun k hk => by
          obtain rfl : k = 0 := Nat.lt_one_iff.1 hk
          rfl
      · (repeat' (first | exact trivial | exact rfl | exact congrArg (SV.int .i64) (Int.natCast_succ _).symm | exact congrArg (SV.int .u64) (Int.natCast_succ _).symm | refine And.intro ?_ ?_))
    · exact absurd rfl (of_decide_eq_false hc)
  | succ r ih =>
    intro d hd hd1 cb L hL hcb hlen
    have hdN : d < h.n := by omega
    have c76 := t76 S d hS (by omega)
    cases ho : S.testBit d with
    | false =>
      rw [ho] at c76
      rw [PW.ways_no (by rw [hL]; exact ho)] at hlen ⊢
      obtain ⟨W, hW⟩ : ∃ W, h.ways s S.testBit M r (L ++ [-1]) = W := ⟨_, rfl⟩
      have ci := fun c2 hc2 => ih (0 + d + 1) (by omega) (by omega) c2 (L ++ [-1]) (by simp [hL]) hc2 hlen
      rw [hW] at ci ⊢
      refine callK (E := E) E_ok Try.func69 rfl ?_
      refine And.intro ?_ (And.intro (fun hc => ?_) (fun hc => ?_))
      · (repeat' (first | exact trivial | exact fun _ => rfl | exact rfl | refine And.intro ?_ ?_))
      · exact absurd (of_decide_eq_true hc) (by omega)
      (repeat' (first | exact trivial | exact fun _ => rfl | exact rfl | refine And.intro ?_ ?_))
      refine c76.use [] ?_ trivial rfl
      all_goals (repeat' (first | exact trivial | exact fun _ => rfl | exact rfl | refine And.intro ?_ ?_))
      all_goals first | exact True.intro | omega | exact u1 (lt64 (by omega)) | exact u0 (lt64 (by omega)) | (show under _ _; simp [under, gB, wB]; done) | (show under _ _; simp [under, gB, wB]; omega) | skip
      all_goals intro hx
      all_goals first | exact absurd hx (by decide) | (cases hx; done) | skip
      (repeat' (first | exact trivial | exact fun _ => rfl | exact rfl | refine And.intro ?_ ?_))
      refine drawP E_ok [2] pl69_5 (by kernel_rfl) ?_
      all_goals (repeat' (first | exact trivial | exact fun _ => rfl | exact rfl | refine And.intro ?_ ?_))
      all_goals first | exact Nat.le_refl _ | omega | decide | exact one1P rfl | exact (fun k _ => rfl) | (show (0 + d) * 8 ≤ 140737488355328; omega) | (show (0 + d + 1) * 8 ≤ 140737488355328; omega) | (show (0 + k) * 8 ≤ 140737488355328; omega) | (show (0 + k + 1) * 8 ≤ 140737488355328; omega) | (show (0 + 1) * 8 ≤ 140737488355328; omega) | (show 0 * 8 ≤ 140737488355328; omega) | skip
      all_goals intro c1 hc1a hc1b
      all_goals (repeat' (first | exact trivial | exact fun _ => rfl | exact rfl | refine And.intro ?_ ?_))
      all_goals first | exact Nat.le_refl _ | omega | decide | exact one1P rfl | exact (fun k _ => rfl) | (show (0 + d) * 8 ≤ 140737488355328; omega) | (show (0 + d + 1) * 8 ≤ 140737488355328; omega) | (show (0 + k) * 8 ≤ 140737488355328; omega) | (show (0 + k + 1) * 8 ≤ 140737488355328; omega) | (show (0 + 1) * 8 ≤ 140737488355328; omega) | (show 0 * 8 ≤ 140737488355328; omega) | skip
      all_goals intro c2 hc2a hc2b
      all_goals (repeat' (first | exact trivial | exact fun _ => rfl | exact rfl | refine And.intro ?_ ?_))
      all_goals refine CallP.frameH (ci c2 ⟨hc2a, hc2b⟩) [0, 6] ?_ rfl ?_
      all_goals first | ((repeat' (first | exact trivial | exact rfl | exact fun _ _ => rfl | exact fun _ _ _ _ => rfl | exact Or.inl rfl | exact Or.inr rfl | refine And.intro ?_ ?_)); exact fun k hk => sel_app hL hk rfl) | skip
      all_goals cases W with
        | nil =>
          rintro ce h' ⟨rfl, rfl⟩
          refine ⟨rfl, ?_⟩
          (repeat' (first | exact trivial | exact fun _ => rfl | exact rfl | refine And.intro ?_ ?_))
          refine ⟨.ret .snil, [some (.roa 4 h.n (HD.F h)), some .dead], ⟨rfl, rfl⟩, ?_⟩
          exact ent_tau [0, 1] ⟨by (repeat' (first | exact trivial | exact rfl | exact fun _ _ => rfl | exact fun _ _ _ _ => rfl | exact Or.inl rfl | exact Or.inr rfl | refine And.intro ?_ ?_)), by (repeat' (first | exact trivial | exact rfl | exact congrArg (SV.int .i64) (Int.natCast_succ _).symm | exact congrArg (SV.int .u64) (Int.natCast_succ _).symm | refine And.intro ?_ ?_)), rfl⟩
        | cons v vs =>
          rintro ce h' ⟨cO3, cp3, hb3, rfl, rfl⟩
          refine ⟨rfl, ?_⟩
          (repeat' (first | exact trivial | exact fun _ => rfl | exact rfl | refine And.intro ?_ ?_))
          refine ⟨.ret (.slice 2 1 0 _ cO3), [some (.roa 4 h.n (HD.F h)), some .dead, some (.arr 1 _ cO3 (rowsC 3 h.n cp3)), some (poolW h.n _)], ⟨cO3, cp3, hb3, rfl, rfl⟩, ?_⟩
          exact ent_tau [0, 1, 7, 8] ⟨by (repeat' (first | exact trivial | exact rfl | exact fun _ _ => rfl | exact fun _ _ _ _ => rfl | exact Or.inl rfl | exact Or.inr rfl | refine And.intro ?_ ?_)), by (repeat' (first | exact trivial | exact rfl | exact congrArg (SV.int .i64) (Int.natCast_succ _).symm | exact congrArg (SV.int .u64) (Int.natCast_succ _).symm | refine And.intro ?_ ?_)), rfl⟩
    | true =>
      rw [ho] at c76
      rw [PW.ways_yes (by rw [hL]; exact ho)] at hlen ⊢
      refine callK (E := E) E_ok Try.func69 rfl ?_
      refine And.intro ?_ (And.intro (fun hc => ?_) (fun hc => ?_))
      · (repeat' (first | exact trivial | exact fun _ => rfl | exact rfl | refine And.intro ?_ ?_))
      · exact absurd (of_decide_eq_true hc) (by omega)
      (repeat' (first | exact trivial | exact fun _ => rfl | exact rfl | refine And.intro ?_ ?_))
      refine c76.use [] ?_ trivial rfl
      all_goals (repeat' (first | exact trivial | exact fun _ => rfl | exact rfl | refine And.intro ?_ ?_))
      all_goals first | exact True.intro | omega | exact u1 (lt64 (by omega)) | exact u0 (lt64 (by omega)) | (show under _ _; simp [under, gB, wB]; done) | (show under _ _; simp [under, gB, wB]; omega) | skip
      all_goals intro hx
      all_goals first | exact absurd hx (by decide) | (cases hx; done) | skip
      (repeat' (first | exact trivial | exact fun _ => rfl | exact rfl | refine And.intro ?_ ?_))
      refine loopP E_ok [1, 2, 3, 4, 6, 13] (fun q : Nat × List (List Int) × Nat × (Nat → Nat) => match q.2.1 with
          | [] => [(5, .snil), (14, .int .i64 q.1)]
          | v :: vs => [(5, .slice 3 1 0 (v :: vs).length q.2.2.1), (14, .int .i64 q.1)])
        (fun q _ => match q.2.1 with
          | [] => [some (.roa 4 h.n (HD.F h)), some (.arr 1 d cb (rowG L)), some (.cells (bc h))]
          | v :: vs => [some (.roa 4 h.n (HD.F h)), some (.arr 1 d cb (rowG L)), some (.cells (bc h)), some (.arr 1 (v :: vs).length q.2.2.1 (rowsC 4 h.n q.2.2.2)), some (poolW h.n (v :: vs))])
        (fun q => q.1 ≤ M ∧ q.2.1 = PW.part h s S.testBit M r L q.1 ∧ (q.2.1 ≠ [] → q.2.1.length ≤ q.2.2.1 ∧ q.2.2.1 ≤ 9223372036854775807)) (fun q => M - q.1) (0, [], 0, fun _ => 0) ⟨Nat.zero_le _, rfl, fun h => absurd rfl h⟩ ?_ ?_
      · exact ent_tau [0, 1, 2] ⟨by (repeat' (first | exact trivial | exact rfl | exact fun _ _ => rfl | exact fun _ _ _ _ => rfl | exact Or.inl rfl | exact Or.inr rfl | refine And.intro ?_ ?_)), by (repeat' (first | exact trivial | exact rfl | exact congrArg (SV.int .i64) (Int.natCast_succ _).symm | exact congrArg (SV.int .u64) (Int.natCast_succ _).symm | refine And.intro ?_ ?_)), rfl⟩
      rintro ⟨c, V, cO', cp'⟩ ⟨hc1, hV, hb⟩
      simp only at hc1 hV hb
      have hf : V.length ≤ 1000000 := by
        have := PW.part_le (h := h) (s := s) (ok := S.testBit) (N := M) (r := r) (L := L) hc1
        rw [hV]
        omega
      cases V with
      | nil =>
        refine And.intro ?_ (And.intro (fun hcc => ?_) (fun hcc => ?_))
        · (repeat' (first | exact trivial | exact fun _ => rfl | exact rfl | refine And.intro ?_ ?_))
        · have hcc' : c < M := by
            have := of_decide_eq_true hcc
            simp only at this
            omega
          (repeat' (first | exact trivial | exact fun _ => rfl | exact rfl | refine And.intro ?_ ?_))
          refine loopP E_ok [1, 2, 3, 4, 5, 6, 13, 14] (fun g : Nat × Bool => [(15, .bool g.2), (16, .int .i64 g.1)]) (fun _ H => H) (fun g => g.1 ≤ d ∧ g.2 = (List.range g.1).all fun m => !(decide (L.getD m 0 = ((c : Nat) : Int)) && h.apart s d m)) (fun g => d - g.1) (0, true) ⟨Nat.zero_le _, rfl⟩ ?_ ?_
          · exact ent_tau [0, 1, 2] ⟨by (repeat' (first | exact trivial | exact rfl | exact fun _ _ => rfl | exact fun _ _ _ _ => rfl | exact Or.inl rfl | exact Or.inr rfl | refine And.intro ?_ ?_)), by (repeat' (first | exact trivial | exact rfl | exact congrArg (SV.int .i64) (Int.natCast_succ _).symm | exact congrArg (SV.int .u64) (Int.natCast_succ _).symm | refine And.intro ?_ ?_)), rfl⟩
          rintro ⟨k, b⟩ ⟨hk, hb0⟩
          simp only at hk hb0
          refine And.intro ?_ (And.intro (fun hlk => ?_) (fun hlk => ?_))
          · (repeat' (first | exact trivial | exact fun _ => rfl | exact rfl | refine And.intro ?_ ?_))
          · have hlk' : k < d := by
              have := of_decide_eq_true hlk
              simp only at this
              omega
            have ek := z1 k
            have c58 := t58 h hv s k d (by omega) hdN
            have hst := fits_step (k := k) hL hb0
            obtain ⟨a, ha⟩ : ∃ a, h.apart s k d = a := ⟨_, rfl⟩
            rw [ha] at c58 hst
            obtain ⟨q, hq⟩ : ∃ q, decide (L.getD k 0 = ((c : Nat) : Int)) = q := ⟨_, rfl⟩
            rw [hq] at hst
            cases b with
            | true =>
              (repeat' (first | exact trivial | exact fun _ => rfl | exact rfl | refine And.intro ?_ ?_))
              all_goals first | exact True.intro | omega | exact u1 (lt64 (by omega)) | exact u0 (lt64 (by omega)) | (show under _ _; simp [under, gB, wB]; done) | (show under _ _; simp [under, gB, wB]; omega) | skip
              · intro hg
                refine c58.use [0] ?_ (by (repeat' (first | exact trivial | exact rfl | exact fun _ _ => rfl | exact fun _ _ _ _ => rfl | exact Or.inl rfl | exact Or.inr rfl | refine And.intro ?_ ?_))) rfl
                (repeat' (first | exact trivial | exact fun _ => rfl | exact rfl | refine And.intro ?_ ?_))
                all_goals first | exact True.intro | omega | exact u1 (lt64 (by omega)) | exact u0 (lt64 (by omega)) | (show under _ _; simp [under, gB, wB]; done) | (show under _ _; simp [under, gB, wB]; omega) | skip
                refine ⟨(k + 1, !(q && a)), ⟨hlk', hst⟩, by simp only; omega, ?_⟩
                refine ent_tau [0, 1, 2] ⟨by (repeat' (first | exact trivial | exact rfl | exact fun _ _ => rfl | exact fun _ _ _ _ => rfl | exact Or.inl rfl | exact Or.inr rfl | refine And.intro ?_ ?_)), ?_, rfl⟩
                (repeat' (first | exact trivial | exact rfl | exact congrArg (SV.int .i64) (Int.natCast_succ _).symm | exact congrArg SV.bool (by rw [ek, hq]; cases q <;> cases a <;> rfl) | refine And.intro ?_ ?_))
              · intro hg
                have hq0 : q = false := by
                  rw [← hq]
                  simpa [gB, wB, ek] using hg
                (repeat' (first | exact trivial | exact fun _ => rfl | exact rfl | refine And.intro ?_ ?_))
                all_goals first | exact fun hh => Bool.noConfusion (hh.symm.trans hg) | skip
                all_goals first | exact True.intro | omega | exact u1 (lt64 (by omega)) | exact u0 (lt64 (by omega)) | (show under _ _; simp [under, gB, wB]; done) | (show under _ _; simp [under, gB, wB]; omega) | skip
                refine ⟨(k + 1, !(q && a)), ⟨hlk', hst⟩, by simp only; omega, ?_⟩
                refine ent_tau [0, 1, 2] ⟨by (repeat' (first | exact trivial | exact rfl | exact fun _ _ => rfl | exact fun _ _ _ _ => rfl | exact Or.inl rfl | exact Or.inr rfl | refine And.intro ?_ ?_)), ?_, rfl⟩
                (repeat' (first | exact trivial | exact rfl | exact congrArg (SV.int .i64) (Int.natCast_succ _).symm | exact congrArg SV.bool (by rw [ek, hq, hq0]; rfl) | refine And.intro ?_ ?_))
            | false =>
              (repeat' (first | exact trivial | exact fun _ => rfl | exact rfl | refine And.intro ?_ ?_))
              all_goals first | exact True.intro | omega | exact u1 (lt64 (by omega)) | exact u0 (lt64 (by omega)) | (show under _ _; simp [under, gB, wB]; done) | (show under _ _; simp [under, gB, wB]; omega) | skip
              · intro hg
                exact absurd hg (by simp [gB, wB])
              · intro hg
                (repeat' (first | exact trivial | exact fun _ => rfl | exact rfl | refine And.intro ?_ ?_))
                all_goals first | exact fun hh => Bool.noConfusion (hh.symm.trans hg) | skip
                all_goals first | exact True.intro | omega | exact u1 (lt64 (by omega)) | exact u0 (lt64 (by omega)) | (show under _ _; simp [under, gB, wB]; done) | (show under _ _; simp [under, gB, wB]; omega) | skip
                refine ⟨(k + 1, false), ⟨hlk', hst⟩, by simp only; omega, ?_⟩
                refine ent_tau [0, 1, 2] ⟨by (repeat' (first | exact trivial | exact rfl | exact fun _ _ => rfl | exact fun _ _ _ _ => rfl | exact Or.inl rfl | exact Or.inr rfl | refine And.intro ?_ ?_)), ?_, rfl⟩
                (repeat' (first | exact trivial | exact rfl | exact congrArg (SV.int .i64) (Int.natCast_succ _).symm | exact congrArg SV.bool rfl | refine And.intro ?_ ?_))
          · have e : k = d := by
              have := of_decide_eq_false hlk
              simp only at this
              omega
            subst e
            have hfit : h.fits s L ((c : Nat) : Int) = b := by
              unfold HD.fits
              rw [hL, hb0]
            cases b with
            | true =>
              have hM2 := PW.part_yes (ok := S.testBit) (N := M) (r := r) hfit
              rw [← hV] at hM2
              obtain ⟨W, hW⟩ : ∃ W, h.ways s S.testBit M r (L ++ [((c : Nat) : Int)]) = W := ⟨_, rfl⟩
              have hl2 : ([] ++ h.ways s S.testBit M r (L ++ [((c : Nat) : Int)])).length ≤ 1000000 := by
                rw [← hM2]
                have := PW.part_le (h := h) (s := s) (ok := S.testBit) (N := M) (r := r) (L := L) (show c + 1 ≤ M from hcc')
                omega
              have ci := fun c2 hc2 => ih (0 + k + 1) (by omega) (by omega) c2 (L ++ [((c : Nat) : Int)]) (by simp [hL]) hc2 hl2
              rw [hW] at ci hM2
              clear hl2
              (repeat' (first | exact trivial | exact fun _ => rfl | exact rfl | refine And.intro ?_ ?_))
              all_goals (repeat' (first | exact trivial | exact fun _ => rfl | exact rfl | refine And.intro ?_ ?_))
              all_goals first | exact True.intro | omega | exact u1 (lt64 (by omega)) | exact u0 (lt64 (by omega)) | (show under _ _; simp [under, gB, wB]; done) | (show under _ _; simp [under, gB, wB]; omega) | skip
              all_goals intro hx
              all_goals first | exact absurd hx (by decide) | (cases hx; done) | skip
              (repeat' (first | exact trivial | exact fun _ => rfl | exact rfl | refine And.intro ?_ ?_))
              refine drawP E_ok [2] pl69_15 (by kernel_rfl) ?_
              all_goals (repeat' (first | exact trivial | exact fun _ => rfl | exact rfl | refine And.intro ?_ ?_))
              all_goals first | exact Nat.le_refl _ | omega | decide | exact one1P rfl | exact (fun k _ => rfl) | (show (0 + d) * 8 ≤ 140737488355328; omega) | (show (0 + d + 1) * 8 ≤ 140737488355328; omega) | (show (0 + k) * 8 ≤ 140737488355328; omega) | (show (0 + k + 1) * 8 ≤ 140737488355328; omega) | (show (0 + 1) * 8 ≤ 140737488355328; omega) | (show 0 * 8 ≤ 140737488355328; omega) | skip
              all_goals intro c1 hc1a hc1b
              all_goals (repeat' (first | exact trivial | exact fun _ => rfl | exact rfl | refine And.intro ?_ ?_))
              all_goals first | exact Nat.le_refl _ | omega | decide | exact one1P rfl | exact (fun k _ => rfl) | (show (0 + d) * 8 ≤ 140737488355328; omega) | (show (0 + d + 1) * 8 ≤ 140737488355328; omega) | (show (0 + k) * 8 ≤ 140737488355328; omega) | (show (0 + k + 1) * 8 ≤ 140737488355328; omega) | (show (0 + 1) * 8 ≤ 140737488355328; omega) | (show 0 * 8 ≤ 140737488355328; omega) | skip
              all_goals intro c2 hc2a hc2b
              all_goals (repeat' (first | exact trivial | exact fun _ => rfl | exact rfl | refine And.intro ?_ ?_))
              all_goals refine CallP.frameH (ci c2 ⟨hc2a, hc2b⟩) [0, 6] ?_ rfl ?_
              all_goals first | ((repeat' (first | exact trivial | exact rfl | exact fun _ _ => rfl | exact fun _ _ _ _ => rfl | exact Or.inl rfl | exact Or.inr rfl | refine And.intro ?_ ?_)); exact fun k hk => sel_app hL hk rfl) | skip
              all_goals cases W with
                | nil =>
                  rintro ce h' ⟨rfl, rfl⟩
                  refine ⟨rfl, ?_⟩
                  (repeat' (first | exact trivial | exact fun _ => rfl | exact rfl | refine And.intro ?_ ?_))
                  all_goals first | (first | omega | exact u0 (by omega) | exact u1 (by omega) | exact u1 ⟨by omega, by omega⟩ | exact un (by omega) | exact fun hh => hh | exact fun hh => absurd hh (by decide) | exact fun hh => congrArg not hh | exact fun hh => Bool.noConfusion (show true = false from hh) | exact fun hh => Bool.noConfusion (show false = true from hh)) | skip
                  refine ⟨(c + 1, [], 0, fun _ => 0), ⟨hcc', hM2.symm, fun h => absurd rfl h⟩, by simp only; omega, ?_⟩
                  exact ent_tau [0, 1, 2] ⟨by (repeat' (first | exact trivial | exact rfl | exact fun _ _ => rfl | exact fun _ _ _ _ => rfl | exact Or.inl rfl | exact Or.inr rfl | refine And.intro ?_ ?_)), by (repeat' (first | exact trivial | exact rfl | exact congrArg (SV.int .i64) (Int.natCast_succ _).symm | exact congrArg (SV.int .u64) (Int.natCast_succ _).symm | refine And.intro ?_ ?_)), rfl⟩
                | cons v vs =>
                  rintro ce h' ⟨cO3, cp3, hb3, rfl, rfl⟩
                  refine ⟨rfl, ?_⟩
                  (repeat' (first | exact trivial | exact fun _ => rfl | exact rfl | refine And.intro ?_ ?_))
                  all_goals first | (first | omega | exact u0 (by omega) | exact u1 (by omega) | exact u1 ⟨by omega, by omega⟩ | exact un (by omega) | exact fun hh => hh | exact fun hh => absurd hh (by decide) | exact fun hh => congrArg not hh | exact fun hh => Bool.noConfusion (show true = false from hh) | exact fun hh => Bool.noConfusion (show false = true from hh)) | skip
                  refine ⟨(c + 1, v :: vs, cO3, cp3), ⟨hcc', hM2.symm, fun _ => hb3⟩, by simp only; omega, ?_⟩
                  exact ent_tau [0, 1, 2, 7, 8] ⟨by (repeat' (first | exact trivial | exact rfl | exact fun _ _ => rfl | exact fun _ _ _ _ => rfl | exact Or.inl rfl | exact Or.inr rfl | refine And.intro ?_ ?_)), by (repeat' (first | exact trivial | exact rfl | exact congrArg (SV.int .i64) (Int.natCast_succ _).symm | exact congrArg (SV.int .u64) (Int.natCast_succ _).symm | refine And.intro ?_ ?_)), rfl⟩
            | false =>
              have hM2 := PW.part_no (ok := S.testBit) (N := M) (r := r) hfit
              rw [← hV] at hM2
              (repeat' (first | exact trivial | exact fun _ => rfl | exact rfl | refine And.intro ?_ ?_))
              all_goals (repeat' (first | exact trivial | exact fun _ => rfl | exact rfl | refine And.intro ?_ ?_))
              all_goals first | exact True.intro | omega | exact u1 (lt64 (by omega)) | exact u0 (lt64 (by omega)) | (show under _ _; simp [under, gB, wB]; done) | (show under _ _; simp [under, gB, wB]; omega) | skip
              all_goals intro hx
              all_goals first | exact absurd hx (by decide) | (cases hx; done) | skip
              (repeat' (first | exact trivial | exact fun _ => rfl | exact rfl | refine And.intro ?_ ?_))
              all_goals first | (first | omega | exact u0 (by omega) | exact u1 (by omega) | exact u1 ⟨by omega, by omega⟩ | exact un (by omega) | exact fun hh => hh | exact fun hh => absurd hh (by decide) | exact fun hh => congrArg not hh | exact fun hh => Bool.noConfusion (show true = false from hh) | exact fun hh => Bool.noConfusion (show false = true from hh)) | skip
              refine ⟨(c + 1, [], 0, fun _ => 0), ⟨hcc', hM2.symm, fun h => absurd rfl h⟩, by simp only; omega, ?_⟩
              exact ent_tau [0, 1, 2] ⟨by (repeat' (first | exact trivial | exact rfl | exact fun _ _ => rfl | exact fun _ _ _ _ => rfl | exact Or.inl rfl | exact Or.inr rfl | refine And.intro ?_ ?_)), by (repeat' (first | exact trivial | exact rfl | exact congrArg (SV.int .i64) (Int.natCast_succ _).symm | exact congrArg (SV.int .u64) (Int.natCast_succ _).symm | refine And.intro ?_ ?_)), rfl⟩
        · have hcn : c = M := by
            have := of_decide_eq_false hcc
            simp only at this
            omega
          subst hcn
          rw [← hV]
          (repeat' (first | exact trivial | exact fun _ => rfl | exact rfl | refine And.intro ?_ ?_))
          refine ⟨.ret .snil, [some (.roa 4 h.n (HD.F h)), some .dead], ⟨rfl, rfl⟩, ?_⟩
          exact ent_tau [0, 1] ⟨by (repeat' (first | exact trivial | exact rfl | exact fun _ _ => rfl | exact fun _ _ _ _ => rfl | exact Or.inl rfl | exact Or.inr rfl | refine And.intro ?_ ?_)), by (repeat' (first | exact trivial | exact rfl | exact congrArg (SV.int .i64) (Int.natCast_succ _).symm | exact congrArg (SV.int .u64) (Int.natCast_succ _).symm | refine And.intro ?_ ?_)), rfl⟩
      | cons v vs =>
        obtain ⟨hb1, hb2⟩ := hb (by simp)
        refine And.intro ?_ (And.intro (fun hcc => ?_) (fun hcc => ?_))
        · (repeat' (first | exact trivial | exact fun _ => rfl | exact rfl | refine And.intro ?_ ?_))
        · have hcc' : c < M := by
            have := of_decide_eq_true hcc
            simp only at this
            omega
          (repeat' (first | exact trivial | exact fun _ => rfl | exact rfl | refine And.intro ?_ ?_))
          refine loopP E_ok [1, 2, 3, 4, 5, 6, 13, 14] (fun g : Nat × Bool => [(15, .bool g.2), (16, .int .i64 g.1)]) (fun _ H => H) (fun g => g.1 ≤ d ∧ g.2 = (List.range g.1).all fun m => !(decide (L.getD m 0 = ((c : Nat) : Int)) && h.apart s d m)) (fun g => d - g.1) (0, true) ⟨Nat.zero_le _, rfl⟩ ?_ ?_
          · exact ent_tau [0, 1, 2, 3, 4] ⟨by (repeat' (first | exact trivial | exact rfl | exact fun _ _ => rfl | exact fun _ _ _ _ => rfl | exact Or.inl rfl | exact Or.inr rfl | refine And.intro ?_ ?_)), by (repeat' (first | exact trivial | exact rfl | exact congrArg (SV.int .i64) (Int.natCast_succ _).symm | exact congrArg (SV.int .u64) (Int.natCast_succ _).symm | refine And.intro ?_ ?_)), rfl⟩
          rintro ⟨k, b⟩ ⟨hk, hb0⟩
          simp only at hk hb0
          refine And.intro ?_ (And.intro (fun hlk => ?_) (fun hlk => ?_))
          · (repeat' (first | exact trivial | exact fun _ => rfl | exact rfl | refine And.intro ?_ ?_))
          · have hlk' : k < d := by
              have := of_decide_eq_true hlk
              simp only at this
              omega
            have ek := z1 k
            have c58 := t58 h hv s k d (by omega) hdN
            have hst := fits_step (k := k) hL hb0
            obtain ⟨a, ha⟩ : ∃ a, h.apart s k d = a := ⟨_, rfl⟩
            rw [ha] at c58 hst
            obtain ⟨q, hq⟩ : ∃ q, decide (L.getD k 0 = ((c : Nat) : Int)) = q := ⟨_, rfl⟩
            rw [hq] at hst
            cases b with
            | true =>
              (repeat' (first | exact trivial | exact fun _ => rfl | exact rfl | refine And.intro ?_ ?_))
              all_goals first | exact True.intro | omega | exact u1 (lt64 (by omega)) | exact u0 (lt64 (by omega)) | (show under _ _; simp [under, gB, wB]; done) | (show under _ _; simp [under, gB, wB]; omega) | skip
              · intro hg
                refine c58.use [0] ?_ (by (repeat' (first | exact trivial | exact rfl | exact fun _ _ => rfl | exact fun _ _ _ _ => rfl | exact Or.inl rfl | exact Or.inr rfl | refine And.intro ?_ ?_))) rfl
                (repeat' (first | exact trivial | exact fun _ => rfl | exact rfl | refine And.intro ?_ ?_))
                all_goals first | exact True.intro | omega | exact u1 (lt64 (by omega)) | exact u0 (lt64 (by omega)) | (show under _ _; simp [under, gB, wB]; done) | (show under _ _; simp [under, gB, wB]; omega) | skip
                refine ⟨(k + 1, !(q && a)), ⟨hlk', hst⟩, by simp only; omega, ?_⟩
                refine ent_tau [0, 1, 2, 3, 4] ⟨by (repeat' (first | exact trivial | exact rfl | exact fun _ _ => rfl | exact fun _ _ _ _ => rfl | exact Or.inl rfl | exact Or.inr rfl | refine And.intro ?_ ?_)), ?_, rfl⟩
                (repeat' (first | exact trivial | exact rfl | exact congrArg (SV.int .i64) (Int.natCast_succ _).symm | exact congrArg SV.bool (by rw [ek, hq]; cases q <;> cases a <;> rfl) | refine And.intro ?_ ?_))
              · intro hg
                have hq0 : q = false := by
                  rw [← hq]
                  simpa [gB, wB, ek] using hg
                (repeat' (first | exact trivial | exact fun _ => rfl | exact rfl | refine And.intro ?_ ?_))
                all_goals first | exact fun hh => Bool.noConfusion (hh.symm.trans hg) | skip
                all_goals first | exact True.intro | omega | exact u1 (lt64 (by omega)) | exact u0 (lt64 (by omega)) | (show under _ _; simp [under, gB, wB]; done) | (show under _ _; simp [under, gB, wB]; omega) | skip
                refine ⟨(k + 1, !(q && a)), ⟨hlk', hst⟩, by simp only; omega, ?_⟩
                refine ent_tau [0, 1, 2, 3, 4] ⟨by (repeat' (first | exact trivial | exact rfl | exact fun _ _ => rfl | exact fun _ _ _ _ => rfl | exact Or.inl rfl | exact Or.inr rfl | refine And.intro ?_ ?_)), ?_, rfl⟩
                (repeat' (first | exact trivial | exact rfl | exact congrArg (SV.int .i64) (Int.natCast_succ _).symm | exact congrArg SV.bool (by rw [ek, hq, hq0]; rfl) | refine And.intro ?_ ?_))
            | false =>
              (repeat' (first | exact trivial | exact fun _ => rfl | exact rfl | refine And.intro ?_ ?_))
              all_goals first | exact True.intro | omega | exact u1 (lt64 (by omega)) | exact u0 (lt64 (by omega)) | (show under _ _; simp [under, gB, wB]; done) | (show under _ _; simp [under, gB, wB]; omega) | skip
              · intro hg
                exact absurd hg (by simp [gB, wB])
              · intro hg
                (repeat' (first | exact trivial | exact fun _ => rfl | exact rfl | refine And.intro ?_ ?_))
                all_goals first | exact fun hh => Bool.noConfusion (hh.symm.trans hg) | skip
                all_goals first | exact True.intro | omega | exact u1 (lt64 (by omega)) | exact u0 (lt64 (by omega)) | (show under _ _; simp [under, gB, wB]; done) | (show under _ _; simp [under, gB, wB]; omega) | skip
                refine ⟨(k + 1, false), ⟨hlk', hst⟩, by simp only; omega, ?_⟩
                refine ent_tau [0, 1, 2, 3, 4] ⟨by (repeat' (first | exact trivial | exact rfl | exact fun _ _ => rfl | exact fun _ _ _ _ => rfl | exact Or.inl rfl | exact Or.inr rfl | refine And.intro ?_ ?_)), ?_, rfl⟩
                (repeat' (first | exact trivial | exact rfl | exact congrArg (SV.int .i64) (Int.natCast_succ _).symm | exact congrArg SV.bool rfl | refine And.intro ?_ ?_))
          · have e : k = d := by
              have := of_decide_eq_false hlk
              simp only at this
              omega
            subst e
            have hfit : h.fits s L ((c : Nat) : Int) = b := by
              unfold HD.fits
              rw [hL, hb0]
            cases b with
            | true =>
              have hM2 := PW.part_yes (ok := S.testBit) (N := M) (r := r) hfit
              rw [← hV] at hM2
              obtain ⟨W, hW⟩ : ∃ W, h.ways s S.testBit M r (L ++ [((c : Nat) : Int)]) = W := ⟨_, rfl⟩
              have hl2 : ((v :: vs) ++ h.ways s S.testBit M r (L ++ [((c : Nat) : Int)])).length ≤ 1000000 := by
                rw [← hM2]
                have := PW.part_le (h := h) (s := s) (ok := S.testBit) (N := M) (r := r) (L := L) (show c + 1 ≤ M from hcc')
                omega
              have ci := fun c2 hc2 => t69a hv hS hM s r (0 + k + 1) (by omega) (by omega) c2 (L ++ [((c : Nat) : Int)]) (v :: vs) cO' cp' (by simp [hL]) hc2 ⟨hb1, hb2⟩ hl2
              rw [hW] at ci hM2
              clear hl2
              (repeat' (first | exact trivial | exact fun _ => rfl | exact rfl | refine And.intro ?_ ?_))
              all_goals (repeat' (first | exact trivial | exact fun _ => rfl | exact rfl | refine And.intro ?_ ?_))
              all_goals first | exact True.intro | omega | exact u1 (lt64 (by omega)) | exact u0 (lt64 (by omega)) | (show under _ _; simp [under, gB, wB]; done) | (show under _ _; simp [under, gB, wB]; omega) | skip
              all_goals intro hx
              all_goals first | exact absurd hx (by decide) | (cases hx; done) | skip
              (repeat' (first | exact trivial | exact fun _ => rfl | exact rfl | refine And.intro ?_ ?_))
              refine drawP E_ok [2] pl69_15 (by kernel_rfl) ?_
              all_goals (repeat' (first | exact trivial | exact fun _ => rfl | exact rfl | refine And.intro ?_ ?_))
              all_goals first | exact Nat.le_refl _ | omega | decide | exact one1P rfl | exact (fun k _ => rfl) | (show (0 + d) * 8 ≤ 140737488355328; omega) | (show (0 + d + 1) * 8 ≤ 140737488355328; omega) | (show (0 + k) * 8 ≤ 140737488355328; omega) | (show (0 + k + 1) * 8 ≤ 140737488355328; omega) | (show (0 + 1) * 8 ≤ 140737488355328; omega) | (show 0 * 8 ≤ 140737488355328; omega) | skip
              all_goals intro c1 hc1a hc1b
              all_goals (repeat' (first | exact trivial | exact fun _ => rfl | exact rfl | refine And.intro ?_ ?_))
              all_goals first | exact Nat.le_refl _ | omega | decide | exact one1P rfl | exact (fun k _ => rfl) | (show (0 + d) * 8 ≤ 140737488355328; omega) | (show (0 + d + 1) * 8 ≤ 140737488355328; omega) | (show (0 + k) * 8 ≤ 140737488355328; omega) | (show (0 + k + 1) * 8 ≤ 140737488355328; omega) | (show (0 + 1) * 8 ≤ 140737488355328; omega) | (show 0 * 8 ≤ 140737488355328; omega) | skip
              all_goals intro c2 hc2a hc2b
              all_goals (repeat' (first | exact trivial | exact fun _ => rfl | exact rfl | refine And.intro ?_ ?_))
              all_goals refine CallP.frameH (ci c2 ⟨hc2a, hc2b⟩) [0, 8, 3, 4] ?_ rfl ?_
              all_goals first | ((repeat' (first | exact trivial | exact rfl | exact fun _ _ => rfl | exact fun _ _ _ _ => rfl | exact Or.inl rfl | exact Or.inr rfl | refine And.intro ?_ ?_)); exact fun k hk => sel_app hL hk rfl) | skip
              all_goals rintro ce h' ⟨cO3, cp3, hb3, rfl, rfl⟩
              all_goals refine ⟨rfl, ?_⟩
              all_goals (repeat' (first | exact trivial | exact fun _ => rfl | exact rfl | refine And.intro ?_ ?_))
              all_goals first | (first | omega | exact u0 (by omega) | exact u1 (by omega) | exact u1 ⟨by omega, by omega⟩ | exact un (by omega) | exact fun hh => hh | exact fun hh => absurd hh (by decide) | exact fun hh => congrArg not hh | exact fun hh => Bool.noConfusion (show true = false from hh) | exact fun hh => Bool.noConfusion (show false = true from hh)) | skip
              all_goals refine ⟨(c + 1, v :: (vs ++ W), cO3, cp3), ⟨hcc', hM2.symm, fun _ => hb3⟩, by simp only; omega, ?_⟩
              all_goals exact ent_tau [0, 1, 2, 9, 10] ⟨by (repeat' (first | exact trivial | exact rfl | exact fun _ _ => rfl | exact fun _ _ _ _ => rfl | exact Or.inl rfl | exact Or.inr rfl | refine And.intro ?_ ?_)), by (repeat' (first | exact trivial | exact rfl | exact congrArg (SV.int .i64) (Int.natCast_succ _).symm | exact congrArg (SV.int .u64) (Int.natCast_succ _).symm | refine And.intro ?_ ?_)), rfl⟩
            | false =>
              have hM2 := PW.part_no (ok := S.testBit) (N := M) (r := r) hfit
              rw [← hV] at hM2
              (repeat' (first | exact trivial | exact fun _ => rfl | exact rfl | refine And.intro ?_ ?_))
              all_goals (repeat' (first | exact trivial | exact fun _ => rfl | exact rfl | refine And.intro ?_ ?_))
              all_goals first | exact True.intro | omega | exact u1 (lt64 (by omega)) | exact u0 (lt64 (by omega)) | (show under _ _; simp [under, gB, wB]; done) | (show under _ _; simp [under, gB, wB]; omega) | skip
              all_goals intro hx
              all_goals first | exact absurd hx (by decide) | (cases hx; done) | skip
              (repeat' (first | exact trivial | exact fun _ => rfl | exact rfl | refine And.intro ?_ ?_))
              all_goals first | (first | omega | exact u0 (by omega) | exact u1 (by omega) | exact u1 ⟨by omega, by omega⟩ | exact un (by omega) | exact fun hh => hh | exact fun hh => absurd hh (by decide) | exact fun hh => congrArg not hh | exact fun hh => Bool.noConfusion (show true = false from hh) | exact fun hh => Bool.noConfusion (show false = true from hh)) | skip
              refine ⟨(c + 1, v :: vs, cO', cp'), ⟨hcc', hM2.symm, fun _ => ⟨hb1, hb2⟩⟩, by simp only; omega, ?_⟩
              exact ent_tau [0, 1, 2, 3, 4] ⟨by (repeat' (first | exact trivial | exact rfl | exact fun _ _ => rfl | exact fun _ _ _ _ => rfl | exact Or.inl rfl | exact Or.inr rfl | refine And.intro ?_ ?_)), by (repeat' (first | exact trivial | exact rfl | exact congrArg (SV.int .i64) (Int.natCast_succ _).symm | exact congrArg (SV.int .u64) (Int.natCast_succ _).symm | refine And.intro ?_ ?_)), rfl⟩
        · have hcn : c = M := by
            have := of_decide_eq_false hcc
            simp only at this
            omega
          subst hcn
          rw [← hV]
          (repeat' (first | exact trivial | exact fun _ => rfl | exact rfl | refine And.intro ?_ ?_))
          refine ⟨.ret (.slice 2 1 0 (v :: vs).length cO'), [some (.roa 4 h.n (HD.F h)), some .dead, some (.arr 1 (v :: vs).length cO' (rowsC 3 h.n cp')), some (poolW h.n (v :: vs))], ⟨cO', cp', ⟨hb1, hb2⟩, rfl, rfl⟩, ?_⟩
          exact ent_tau [0, 1, 3, 4] ⟨by (repeat' (first | exact trivial | exact rfl | exact fun _ _ => rfl | exact fun _ _ _ _ => rfl | exact Or.inl rfl | exact Or.inr rfl | refine And.intro ?_ ?_)), by (repeat' (first | exact trivial | exact rfl | exact congrArg (SV.int .i64) (Int.natCast_succ _).symm | exact congrArg (SV.int .u64) (Int.natCast_succ _).symm | refine And.intro ?_ ?_)), rfl⟩
theorem sel_app0 {σ : Nat → Nat} {k : Nat} {n : Int} (hk : k < 0 + 1) {a b : Nat → List SV} (hb : b 0 = [.int .i64 n]) :
    selL (decide (k < 0)) (a k) (b (0 + (k - 0))) = renL σ (rowG ([] ++ [n]) k) := by
  obtain rfl : k = 0 := by omega
  rw [decide_eq_false (Nat.lt_irrefl 0), selL_false, show 0 + (0 - 0) = 0 from rfl, hb]
  rfl

theorem t69c {h : HD} (hv : h.Valid) {S M : Nat} (hS : S < 128) (hM : M ≤ 7) (s : Bool) (r : Nat) (hr : r + 1 = h.n) (hlen : (h.ways s S.testBit M (r + 1) []).length ≤ 1000000) :
    CallP Try.prog 69 [HD.A h, .int .i64 M, .int .i64 S, .bool s, .snil, .snil] [some (.roa 4 h.n (HD.F h))] (K69n [some (.roa 4 h.n (HD.F h))] 1 h (h.ways s S.testBit M (r + 1) [])) := by
  have hn7 := hv.2.1
  have c76 := t76 S 0 hS (by omega)
  cases ho : S.testBit 0 with
  | false =>
    rw [Int.natCast_zero, ho] at c76
    rw [PW.ways_no (by exact ho)] at hlen ⊢
    obtain ⟨W, hW⟩ : ∃ W, h.ways s S.testBit M r ([] ++ [-1]) = W := ⟨_, rfl⟩
    have ci := fun c2 hc2 => t69b hv hS hM s r (0 + 1) (by omega) (by omega) c2 ([] ++ [-1]) (by simp) hc2 hlen
    rw [hW] at ci ⊢
    refine callK (E := E) E_ok Try.func69 rfl ?_
    refine And.intro ?_ (And.intro (fun hc => ?_) (fun hc => ?_))
    · (repeat' (first | exact trivial | exact fun _ => rfl | exact rfl | refine And.intro ?_ ?_))
    · exact absurd (of_decide_eq_true hc) (by omega)
    (repeat' (first | exact trivial | exact fun _ => rfl | exact rfl | refine And.intro ?_ ?_))
    refine c76.use [] ?_ trivial rfl
    all_goals (repeat' (first | exact trivial | exact fun _ => rfl | exact rfl | refine And.intro ?_ ?_))
    all_goals first | exact True.intro | omega | exact u1 (lt64 (by omega)) | exact u0 (lt64 (by omega)) | (show under _ _; simp [under, gB, wB]; done) | (show under _ _; simp [under, gB, wB]; omega) | skip
    all_goals intro hx
    all_goals first | exact absurd hx (by decide) | (cases hx; done) | skip
    (repeat' (first | exact trivial | exact fun _ => rfl | exact rfl | refine And.intro ?_ ?_))
    refine drawP E_ok [1] pl69_5 (by kernel_rfl) ?_
    all_goals (repeat' (first | exact trivial | exact fun _ => rfl | exact rfl | refine And.intro ?_ ?_))
    all_goals first | exact Nat.le_refl _ | omega | decide | exact one1P rfl | exact (fun k _ => rfl) | (show (0 + d) * 8 ≤ 140737488355328; omega) | (show (0 + d + 1) * 8 ≤ 140737488355328; omega) | (show (0 + k) * 8 ≤ 140737488355328; omega) | (show (0 + k + 1) * 8 ≤ 140737488355328; omega) | (show (0 + 1) * 8 ≤ 140737488355328; omega) | (show 0 * 8 ≤ 140737488355328; omega) | skip
    all_goals intro c1 hc1a hc1b
    all_goals (repeat' (first | exact trivial | exact fun _ => rfl | exact rfl | refine And.intro ?_ ?_))
    all_goals first | exact Nat.le_refl _ | omega | decide | exact one1P rfl | exact (fun k _ => rfl) | (show (0 + d) * 8 ≤ 140737488355328; omega) | (show (0 + d + 1) * 8 ≤ 140737488355328; omega) | (show (0 + k) * 8 ≤ 140737488355328; omega) | (show (0 + k + 1) * 8 ≤ 140737488355328; omega) | (show (0 + 1) * 8 ≤ 140737488355328; omega) | (show 0 * 8 ≤ 140737488355328; omega) | skip
    all_goals intro c2 hc2a hc2b
    all_goals (repeat' (first | exact trivial | exact fun _ => rfl | exact rfl | refine And.intro ?_ ?_))
    all_goals refine CallP.frameH (ci c2 ⟨hc2a, hc2b⟩) [0, 5] ?_ rfl ?_
    all_goals first | ((repeat' (first | exact trivial | exact rfl | exact fun _ _ => rfl | exact fun _ _ _ _ => rfl | exact Or.inl rfl | exact Or.inr rfl | refine And.intro ?_ ?_)); exact fun k hk => sel_app0 hk rfl) | skip
    all_goals cases W with
      | nil =>
        rintro ce h' ⟨rfl, rfl⟩
        refine ⟨rfl, ?_⟩
        (repeat' (first | exact trivial | exact fun _ => rfl | exact rfl | refine And.intro ?_ ?_))
        refine ⟨.ret .snil, [some (.roa 4 h.n (HD.F h))], ⟨rfl, rfl⟩, ?_⟩
        exact ent_tau [0] ⟨by (repeat' (first | exact trivial | exact rfl | exact fun _ _ => rfl | exact fun _ _ _ _ => rfl | exact Or.inl rfl | exact Or.inr rfl | refine And.intro ?_ ?_)), by (repeat' (first | exact trivial | exact rfl | exact congrArg (SV.int .i64) (Int.natCast_succ _).symm | exact congrArg (SV.int .u64) (Int.natCast_succ _).symm | refine And.intro ?_ ?_)), rfl⟩
      | cons v vs =>
        rintro ce h' ⟨cO3, cp3, hb3, rfl, rfl⟩
        refine ⟨rfl, ?_⟩
        (repeat' (first | exact trivial | exact fun _ => rfl | exact rfl | refine And.intro ?_ ?_))
        refine ⟨.ret (.slice 1 1 0 _ cO3), [some (.roa 4 h.n (HD.F h)), some (.arr 1 _ cO3 (rowsC 2 h.n cp3)), some (poolW h.n _)], ⟨cO3, cp3, hb3, rfl, rfl⟩, ?_⟩
        exact ent_tau [0, 6, 7] ⟨by (repeat' (first | exact trivial | exact rfl | exact fun _ _ => rfl | exact fun _ _ _ _ => rfl | exact Or.inl rfl | exact Or.inr rfl | refine And.intro ?_ ?_)), by (repeat' (first | exact trivial | exact rfl | exact congrArg (SV.int .i64) (Int.natCast_succ _).symm | exact congrArg (SV.int .u64) (Int.natCast_succ _).symm | refine And.intro ?_ ?_)), rfl⟩
  | true =>
    rw [Int.natCast_zero, ho] at c76
    rw [PW.ways_yes (by exact ho)] at hlen ⊢
    refine callK (E := E) E_ok Try.func69 rfl ?_
    refine And.intro ?_ (And.intro (fun hc => ?_) (fun hc => ?_))
    · (repeat' (first | exact trivial | exact fun _ => rfl | exact rfl | refine And.intro ?_ ?_))
    · exact absurd (of_decide_eq_true hc) (by omega)
    (repeat' (first | exact trivial | exact fun _ => rfl | exact rfl | refine And.intro ?_ ?_))
    refine c76.use [] ?_ trivial rfl
    all_goals (repeat' (first | exact trivial | exact fun _ => rfl | exact rfl | refine And.intro ?_ ?_))
    all_goals first | exact True.intro | omega | exact u1 (lt64 (by omega)) | exact u0 (lt64 (by omega)) | (show under _ _; simp [under, gB, wB]; done) | (show under _ _; simp [under, gB, wB]; omega) | skip
    all_goals intro hx
    all_goals first | exact absurd hx (by decide) | (cases hx; done) | skip
    (repeat' (first | exact trivial | exact fun _ => rfl | exact rfl | refine And.intro ?_ ?_))
    refine loopP E_ok [1, 2, 3, 4, 6, 13] (fun q : Nat × List (List Int) × Nat × (Nat → Nat) => match q.2.1 with
        | [] => [(5, .snil), (14, .int .i64 q.1)]
        | v :: vs => [(5, .slice 2 1 0 (v :: vs).length q.2.2.1), (14, .int .i64 q.1)])
      (fun q _ => match q.2.1 with
        | [] => [some (.roa 4 h.n (HD.F h)), some (.cells (bc h))]
        | v :: vs => [some (.roa 4 h.n (HD.F h)), some (.cells (bc h)), some (.arr 1 (v :: vs).length q.2.2.1 (rowsC 3 h.n q.2.2.2)), some (poolW h.n (v :: vs))])
      (fun q => q.1 ≤ M ∧ q.2.1 = PW.part h s S.testBit M r [] q.1 ∧ (q.2.1 ≠ [] → q.2.1.length ≤ q.2.2.1 ∧ q.2.2.1 ≤ 9223372036854775807)) (fun q => M - q.1) (0, [], 0, fun _ => 0) ⟨Nat.zero_le _, rfl, fun h => absurd rfl h⟩ ?_ ?_
    · exact ent_tau [0, 1] ⟨by (repeat' (first | exact trivial | exact rfl | exact fun _ _ => rfl | exact fun _ _ _ _ => rfl | exact Or.inl rfl | exact Or.inr rfl | refine And.intro ?_ ?_)), by (repeat' (first | exact trivial | exact rfl | exact congrArg (SV.int .i64) (Int.natCast_succ _).symm | exact congrArg (SV.int .u64) (Int.natCast_succ _).symm | refine And.intro ?_ ?_)), rfl⟩
    rintro ⟨c, V, cO', cp'⟩ ⟨hc1, hV, hb⟩
    simp only at hc1 hV hb
    have hf : V.length ≤ 1000000 := by
      have := PW.part_le (h := h) (s := s) (ok := S.testBit) (N := M) (r := r) (L := []) hc1
      rw [hV]
      omega
    cases V with
    | nil =>
      refine And.intro ?_ (And.intro (fun hcc => ?_) (fun hcc => ?_))
      · (repeat' (first | exact trivial | exact fun _ => rfl | exact rfl | refine And.intro ?_ ?_))
      · have hcc' : c < M := by
          have := of_decide_eq_true hcc
          simp only at this
          omega
        (repeat' (first | exact trivial | exact fun _ => rfl | exact rfl | refine And.intro ?_ ?_))
        refine loopP E_ok [1, 2, 3, 4, 5, 6, 13, 14] (fun g : Nat × Bool => [(15, .bool g.2), (16, .int .i64 g.1)]) (fun _ H => H) (fun g => g.1 ≤ 0 ∧ g.2 = (List.range g.1).all fun m => !(decide ([].getD m 0 = ((c : Nat) : Int)) && h.apart s 0 m)) (fun g => 0 - g.1) (0, true) ⟨Nat.zero_le _, rfl⟩ ?_ ?_
        · exact ent_tau [0, 1] ⟨by (repeat' (first | exact trivial | exact rfl | exact fun _ _ => rfl | exact fun _ _ _ _ => rfl | exact Or.inl rfl | exact Or.inr rfl | refine And.intro ?_ ?_)), by (repeat' (first | exact trivial | exact rfl | exact congrArg (SV.int .i64) (Int.natCast_succ _).symm | exact congrArg (SV.int .u64) (Int.natCast_succ _).symm | refine And.intro ?_ ?_)), rfl⟩
        rintro ⟨k, b⟩ ⟨hk, hb0⟩
        simp only at hk hb0
        refine And.intro ?_ (And.intro (fun hlk => ?_) (fun hlk => ?_))
        · (repeat' (first | exact trivial | exact fun _ => rfl | exact rfl | refine And.intro ?_ ?_))
        · exact absurd (of_decide_eq_true hlk) (by simp only; omega)
        · have e : k = 0 := by
            have := of_decide_eq_false hlk
            simp only at this
            omega
          subst e
          have hfit : h.fits s [] ((c : Nat) : Int) = b := by
            unfold HD.fits
            rw [hb0]
            rfl
          cases b with
          | true =>
            have hM2 := PW.part_yes (ok := S.testBit) (N := M) (r := r) hfit
            rw [← hV] at hM2
            obtain ⟨W, hW⟩ : ∃ W, h.ways s S.testBit M r ([] ++ [((c : Nat) : Int)]) = W := ⟨_, rfl⟩
            have hl2 : ([] ++ h.ways s S.testBit M r ([] ++ [((c : Nat) : Int)])).length ≤ 1000000 := by
              rw [← hM2]
              have := PW.part_le (h := h) (s := s) (ok := S.testBit) (N := M) (r := r) (L := []) (show c + 1 ≤ M from hcc')
              omega
            have ci := fun c2 hc2 => t69b hv hS hM s r (0 + 1) (by omega) (by omega) c2 ([] ++ [((c : Nat) : Int)]) (by simp) hc2 hl2
            rw [hW] at ci hM2
            clear hl2
            (repeat' (first | exact trivial | exact fun _ => rfl | exact rfl | refine And.intro ?_ ?_))
            all_goals (repeat' (first | exact trivial | exact fun _ => rfl | exact rfl | refine And.intro ?_ ?_))
            all_goals first | exact True.intro | omega | exact u1 (lt64 (by omega)) | exact u0 (lt64 (by omega)) | (show under _ _; simp [under, gB, wB]; done) | (show under _ _; simp [under, gB, wB]; omega) | skip
            all_goals intro hx
            all_goals first | exact absurd hx (by decide) | (cases hx; done) | skip
            (repeat' (first | exact trivial | exact fun _ => rfl | exact rfl | refine And.intro ?_ ?_))
            refine drawP E_ok [1] pl69_15 (by kernel_rfl) ?_
            all_goals (repeat' (first | exact trivial | exact fun _ => rfl | exact rfl | refine And.intro ?_ ?_))
            all_goals first | exact Nat.le_refl _ | omega | decide | exact one1P rfl | exact (fun k _ => rfl) | (show (0 + d) * 8 ≤ 140737488355328; omega) | (show (0 + d + 1) * 8 ≤ 140737488355328; omega) | (show (0 + k) * 8 ≤ 140737488355328; omega) | (show (0 + k + 1) * 8 ≤ 140737488355328; omega) | (show (0 + 1) * 8 ≤ 140737488355328; omega) | (show 0 * 8 ≤ 140737488355328; omega) | skip
            all_goals intro c1 hc1a hc1b
            all_goals (repeat' (first | exact trivial | exact fun _ => rfl | exact rfl | refine And.intro ?_ ?_))
            all_goals first | exact Nat.le_refl _ | omega | decide | exact one1P rfl | exact (fun k _ => rfl) | (show (0 + d) * 8 ≤ 140737488355328; omega) | (show (0 + d + 1) * 8 ≤ 140737488355328; omega) | (show (0 + k) * 8 ≤ 140737488355328; omega) | (show (0 + k + 1) * 8 ≤ 140737488355328; omega) | (show (0 + 1) * 8 ≤ 140737488355328; omega) | (show 0 * 8 ≤ 140737488355328; omega) | skip
            all_goals intro c2 hc2a hc2b
            all_goals (repeat' (first | exact trivial | exact fun _ => rfl | exact rfl | refine And.intro ?_ ?_))
            all_goals refine CallP.frameH (ci c2 ⟨hc2a, hc2b⟩) [0, 5] ?_ rfl ?_
            all_goals first | ((repeat' (first | exact trivial | exact rfl | exact fun _ _ => rfl | exact fun _ _ _ _ => rfl | exact Or.inl rfl | exact Or.inr rfl | refine And.intro ?_ ?_)); exact fun k hk => sel_app0 hk rfl) | skip
            all_goals cases W with
              | nil =>
                rintro ce h' ⟨rfl, rfl⟩
                refine ⟨rfl, ?_⟩
                (repeat' (first | exact trivial | exact fun _ => rfl | exact rfl | refine And.intro ?_ ?_))
                all_goals first | (first | omega | exact u0 (by omega) | exact u1 (by omega) | exact u1 ⟨by omega, by omega⟩ | exact un (by omega) | exact fun hh => hh | exact fun hh => absurd hh (by decide) | exact fun hh => congrArg not hh | exact fun hh => Bool.noConfusion (show true = false from hh) | exact fun hh => Bool.noConfusion (show false = true from hh)) | skip
                refine ⟨(c + 1, [], 0, fun _ => 0), ⟨hcc', hM2.symm, fun h => absurd rfl h⟩, by simp only; omega, ?_⟩
                exact ent_tau [0, 1] ⟨by (repeat' (first | exact trivial | exact rfl | exact fun _ _ => rfl | exact fun _ _ _ _ => rfl | exact Or.inl rfl | exact Or.inr rfl | refine And.intro ?_ ?_)), by (repeat' (first | exact trivial | exact rfl | exact congrArg (SV.int .i64) (Int.natCast_succ _).symm | exact congrArg (SV.int .u64) (Int.natCast_succ _).symm | refine And.intro ?_ ?_)), rfl⟩
              | cons v vs =>
                rintro ce h' ⟨cO3, cp3, hb3, rfl, rfl⟩
                refine ⟨rfl, ?_⟩
                (repeat' (first | exact trivial | exact fun _ => rfl | exact rfl | refine And.intro ?_ ?_))
                all_goals first | (first | omega | exact u0 (by omega) | exact u1 (by omega) | exact u1 ⟨by omega, by omega⟩ | exact un (by omega) | exact fun hh => hh | exact fun hh => absurd hh (by decide) | exact fun hh => congrArg not hh | exact fun hh => Bool.noConfusion (show true = false from hh) | exact fun hh => Bool.noConfusion (show false = true from hh)) | skip
                refine ⟨(c + 1, v :: vs, cO3, cp3), ⟨hcc', hM2.symm, fun _ => hb3⟩, by simp only; omega, ?_⟩
                exact ent_tau [0, 1, 6, 7] ⟨by (repeat' (first | exact trivial | exact rfl | exact fun _ _ => rfl | exact fun _ _ _ _ => rfl | exact Or.inl rfl | exact Or.inr rfl | refine And.intro ?_ ?_)), by (repeat' (first | exact trivial | exact rfl | exact congrArg (SV.int .i64) (Int.natCast_succ _).symm | exact congrArg (SV.int .u64) (Int.natCast_succ _).symm | refine And.intro ?_ ?_)), rfl⟩
          | false =>
            have hM2 := PW.part_no (ok := S.testBit) (N := M) (r := r) hfit
            rw [← hV] at hM2
            (repeat' (first | exact trivial | exact fun _ => rfl | exact rfl | refine And.intro ?_ ?_))
            all_goals (repeat' (first | exact trivial | exact fun _ => rfl | exact rfl | refine And.intro ?_ ?_))
            all_goals first | exact True.intro | omega | exact u1 (lt64 (by omega)) | exact u0 (lt64 (by omega)) | (show under _ _; simp [under, gB, wB]; done) | (show under _ _; simp [under, gB, wB]; omega) | skip
            all_goals intro hx
            all_goals first | exact absurd hx (by decide) | (cases hx; done) | skip
            (repeat' (first | exact trivial | exact fun _ => rfl | exact rfl | refine And.intro ?_ ?_))
            all_goals first | (first | omega | exact u0 (by omega) | exact u1 (by omega) | exact u1 ⟨by omega, by omega⟩ | exact un (by omega) | exact fun hh => hh | exact fun hh => absurd hh (by decide) | exact fun hh => congrArg not hh | exact fun hh => Bool.noConfusion (show true = false from hh) | exact fun hh => Bool.noConfusion (show false = true from hh)) | skip
            refine ⟨(c + 1, [], 0, fun _ => 0), ⟨hcc', hM2.symm, fun h => absurd rfl h⟩, by simp only; omega, ?_⟩
            exact ent_tau [0, 1] ⟨by (repeat' (first | exact trivial | exact rfl | exact fun _ _ => rfl | exact fun _ _ _ _ => rfl | exact Or.inl rfl | exact Or.inr rfl | refine And.intro ?_ ?_)), by (repeat' (first | exact trivial | exact rfl | exact congrArg (SV.int .i64) (Int.natCast_succ _).symm | exact congrArg (SV.int .u64) (Int.natCast_succ _).symm | refine And.intro ?_ ?_)), rfl⟩
      · have hcn : c = M := by
          have := of_decide_eq_false hcc
          simp only at this
          omega
        subst hcn
        rw [← hV]
        (repeat' (first | exact trivial | exact fun _ => rfl | exact rfl | refine And.intro ?_ ?_))
        refine ⟨.ret .snil, [some (.roa 4 h.n (HD.F h))], ⟨rfl, rfl⟩, ?_⟩
        exact ent_tau [0] ⟨by (repeat' (first | exact trivial | exact rfl | exact fun _ _ => rfl | exact fun _ _ _ _ => rfl | exact Or.inl rfl | exact Or.inr rfl | refine And.intro ?_ ?_)), by (repeat' (first | exact trivial | exact rfl | exact congrArg (SV.int .i64) (Int.natCast_succ _).symm | exact congrArg (SV.int .u64) (Int.natCast_succ _).symm | refine And.intro ?_ ?_)), rfl⟩
    | cons v vs =>
      obtain ⟨hb1, hb2⟩ := hb (by simp)
      refine And.intro ?_ (And.intro (fun hcc => ?_) (fun hcc => ?_))
      · (repeat' (first | exact trivial | exact fun _ => rfl | exact rfl | refine And.intro ?_ ?_))
      · have hcc' : c < M := by
          have := of_decide_eq_true hcc
          simp only at this
          omega
        (repeat' (first | exact trivial | exact fun _ => rfl | exact rfl | refine And.intro ?_ ?_))
        refine loopP E_ok [1, 2, 3, 4, 5, 6, 13, 14] (fun g : Nat × Bool => [(15, .bool g.2), (16, .int .i64 g.1)]) (fun _ H => H) (fun g => g.1 ≤ 0 ∧ g.2 = (List.range g.1).all fun m => !(decide ([].getD m 0 = ((c : Nat) : Int)) && h.apart s 0 m)) (fun g => 0 - g.1) (0, true) ⟨Nat.zero_le _, rfl⟩ ?_ ?_
        · exact ent_tau [0, 1, 2, 3] ⟨by (repeat' (first | exact trivial | exact rfl | exact fun _ _ => rfl | exact fun _ _ _ _ => rfl | exact Or.inl rfl | exact Or.inr rfl | refine And.intro ?_ ?_)), by (repeat' (first | exact trivial | exact rfl | exact congrArg (SV.int .i64) (Int.natCast_succ _).symm | exact congrArg (SV.int .u64) (Int.natCast_succ _).symm | refine And.intro ?_ ?_)), rfl⟩
        rintro ⟨k, b⟩ ⟨hk, hb0⟩
        simp only at hk hb0
        refine And.intro ?_ (And.intro (fun hlk => ?_) (fun hlk => ?_))
        · (repeat' (first | exact trivial | exact fun _ => rfl | exact rfl | refine And.intro ?_ ?_))
        · exact absurd (of_decide_eq_true hlk) (by simp only; omega)
        · have e : k = 0 := by
            have := of_decide_eq_false hlk
            simp only at this
            omega
          subst e
          have hfit : h.fits s [] ((c : Nat) : Int) = b := by
            unfold HD.fits
            rw [hb0]
            rfl
          cases b with
          | true =>
            have hM2 := PW.part_yes (ok := S.testBit) (N := M) (r := r) hfit
            rw [← hV] at hM2
            obtain ⟨W, hW⟩ : ∃ W, h.ways s S.testBit M r ([] ++ [((c : Nat) : Int)]) = W := ⟨_, rfl⟩
            have hl2 : ((v :: vs) ++ h.ways s S.testBit M r ([] ++ [((c : Nat) : Int)])).length ≤ 1000000 := by
              rw [← hM2]
              have := PW.part_le (h := h) (s := s) (ok := S.testBit) (N := M) (r := r) (L := []) (show c + 1 ≤ M from hcc')
              omega
            have ci := fun c2 hc2 => t69a hv hS hM s r (0 + 0 + 1) (by omega) (by omega) c2 ([] ++ [((c : Nat) : Int)]) (v :: vs) cO' cp' (by simp) hc2 ⟨hb1, hb2⟩ hl2
            rw [hW] at ci hM2
            clear hl2
            (repeat' (first | exact trivial | exact fun _ => rfl | exact rfl | refine And.intro ?_ ?_))
            all_goals (repeat' (first | exact trivial | exact fun _ => rfl | exact rfl | refine And.intro ?_ ?_))
            all_goals first | exact True.intro | omega | exact u1 (lt64 (by omega)) | exact u0 (lt64 (by omega)) | (show under _ _; simp [under, gB, wB]; done) | (show under _ _; simp [under, gB, wB]; omega) | skip
            all_goals intro hx
            all_goals first | exact absurd hx (by decide) | (cases hx; done) | skip
            (repeat' (first | exact trivial | exact fun _ => rfl | exact rfl | refine And.intro ?_ ?_))
            refine drawP E_ok [1] pl69_15 (by kernel_rfl) ?_
            all_goals (repeat' (first | exact trivial | exact fun _ => rfl | exact rfl | refine And.intro ?_ ?_))
            all_goals first | exact Nat.le_refl _ | omega | decide | exact one1P rfl | exact (fun k _ => rfl) | (show (0 + d) * 8 ≤ 140737488355328; omega) | (show (0 + d + 1) * 8 ≤ 140737488355328; omega) | (show (0 + k) * 8 ≤ 140737488355328; omega) | (show (0 + k + 1) * 8 ≤ 140737488355328; omega) | (show (0 + 1) * 8 ≤ 140737488355328; omega) | (show 0 * 8 ≤ 140737488355328; omega) | skip
            all_goals intro c1 hc1a hc1b
            all_goals (repeat' (first | exact trivial | exact fun _ => rfl | exact rfl | refine And.intro ?_ ?_))
            all_goals first | exact Nat.le_refl _ | omega | decide | exact one1P rfl | exact (fun k _ => rfl) | (show (0 + d) * 8 ≤ 140737488355328; omega) | (show (0 + d + 1) * 8 ≤ 140737488355328; omega) | (show (0 + k) * 8 ≤ 140737488355328; omega) | (show (0 + k + 1) * 8 ≤ 140737488355328; omega) | (show (0 + 1) * 8 ≤ 140737488355328; omega) | (show 0 * 8 ≤ 140737488355328; omega) | skip
            all_goals intro c2 hc2a hc2b
            all_goals (repeat' (first | exact trivial | exact fun _ => rfl | exact rfl | refine And.intro ?_ ?_))
            all_goals refine CallP.frameH (ci c2 ⟨hc2a, hc2b⟩) [0, 7, 2, 3] ?_ rfl ?_
            all_goals first | ((repeat' (first | exact trivial | exact rfl | exact fun _ _ => rfl | exact fun _ _ _ _ => rfl | exact Or.inl rfl | exact Or.inr rfl | refine And.intro ?_ ?_)); exact fun k hk => sel_app0 hk rfl) | skip
            all_goals rintro ce h' ⟨cO3, cp3, hb3, rfl, rfl⟩
            all_goals refine ⟨rfl, ?_⟩
            all_goals (repeat' (first | exact trivial | exact fun _ => rfl | exact rfl | refine And.intro ?_ ?_))
            all_goals first | (first | omega | exact u0 (by omega) | exact u1 (by omega) | exact u1 ⟨by omega, by omega⟩ | exact un (by omega) | exact fun hh => hh | exact fun hh => absurd hh (by decide) | exact fun hh => congrArg not hh | exact fun hh => Bool.noConfusion (show true = false from hh) | exact fun hh => Bool.noConfusion (show false = true from hh)) | skip
            all_goals refine ⟨(c + 1, v :: (vs ++ W), cO3, cp3), ⟨hcc', hM2.symm, fun _ => hb3⟩, by simp only; omega, ?_⟩
            all_goals exact ent_tau [0, 1, 8, 9] ⟨by (repeat' (first | exact trivial | exact rfl | exact fun _ _ => rfl | exact fun _ _ _ _ => rfl | exact Or.inl rfl | exact Or.inr rfl | refine And.intro ?_ ?_)), by (repeat' (first | exact trivial | exact rfl | exact congrArg (SV.int .i64) (Int.natCast_succ _).symm | exact congrArg (SV.int .u64) (Int.natCast_succ _).symm | refine And.intro ?_ ?_)), rfl⟩
          | false =>
            have hM2 := PW.part_no (ok := S.testBit) (N := M) (r := r) hfit
            rw [← hV] at hM2
            (repeat' (first | exact trivial | exact fun _ => rfl | exact rfl | refine And.intro ?_ ?_))
            all_goals (repeat' (first | exact trivial | exact fun _ => rfl | exact rfl | refine And.intro ?_ ?_))
            all_goals first | exact True.intro | omega | exact u1 (lt64 (by omega)) | exact u0 (lt64 (by omega)) | (show under _ _; simp [under, gB, wB]; done) | (show under _ _; simp [under, gB, wB]; omega) | skip
            all_goals intro hx
            all_goals first | exact absurd hx (by decide) | (cases hx; done) | skip
            (repeat' (first | exact trivial | exact fun _ => rfl | exact rfl | refine And.intro ?_ ?_))
            all_goals first | (first | omega | exact u0 (by omega) | exact u1 (by omega) | exact u1 ⟨by omega, by omega⟩ | exact un (by omega) | exact fun hh => hh | exact fun hh => absurd hh (by decide) | exact fun hh => congrArg not hh | exact fun hh => Bool.noConfusion (show true = false from hh) | exact fun hh => Bool.noConfusion (show false = true from hh)) | skip
            refine ⟨(c + 1, v :: vs, cO', cp'), ⟨hcc', hM2.symm, fun _ => ⟨hb1, hb2⟩⟩, by simp only; omega, ?_⟩
            exact ent_tau [0, 1, 2, 3] ⟨by (repeat' (first | exact trivial | exact rfl | exact fun _ _ => rfl | exact fun _ _ _ _ => rfl | exact Or.inl rfl | exact Or.inr rfl | refine And.intro ?_ ?_)), by (repeat' (first | exact trivial | exact rfl | exact congrArg (SV.int .i64) (Int.natCast_succ _).symm | exact congrArg (SV.int .u64) (Int.natCast_succ _).symm | refine And.intro ?_ ?_)), rfl⟩
      · have hcn : c = M := by
          have := of_decide_eq_false hcc
          simp only at this
          omega
        subst hcn
        rw [← hV]
        (repeat' (first | exact trivial | exact fun _ => rfl | exact rfl | refine And.intro ?_ ?_))
        refine ⟨.ret (.slice 1 1 0 (v :: vs).length cO'), [some (.roa 4 h.n (HD.F h)), some (.arr 1 (v :: vs).length cO' (rowsC 2 h.n cp')), some (poolW h.n (v :: vs))], ⟨cO', cp', ⟨hb1, hb2⟩, rfl, rfl⟩, ?_⟩
        exact ent_tau [0, 2, 3] ⟨by (repeat' (first | exact trivial | exact rfl | exact fun _ _ => rfl | exact fun _ _ _ _ => rfl | exact Or.inl rfl | exact Or.inr rfl | refine And.intro ?_ ?_)), by (repeat' (first | exact trivial | exact rfl | exact congrArg (SV.int .i64) (Int.natCast_succ _).symm | exact congrArg (SV.int .u64) (Int.natCast_succ _).symm | refine And.intro ?_ ?_)), rfl⟩
theorem t69z {h : HD} (h0 : h.n = 0) (S M : Int) (s : Bool) :
    CallP Try.prog 69 [HD.A h, .int .i64 M, .int .i64 S, .bool s, .snil, .snil] [some (.roa 4 h.n (HD.F h))] (fun ce h' => ∃ c, (1 ≤ c ∧ c ≤ 9223372036854775807) ∧ ce = .ret (.slice 1 1 0 1 c) ∧ h' = [some (.roa 4 h.n (HD.F h)), some (.arr 1 1 c fun _ => [.snil])]) := by
  refine callK (E := E) E_ok Try.func69 rfl ?_
  refine And.intro ?_ (And.intro (fun hc => ?_) (fun hc => ?_))
  · (repeat' (first | exact trivial | exact fun _ => rfl | exact rfl | refine And.intro ?_ ?_))
  · (repeat' (first | exact trivial | exact fun _ => rfl | exact rfl | refine And.intro ?_ ?_))
    all_goals first | exact Nat.le_refl _ | decide | exact one1P rfl | (show 1 * 24 ≤ 140737488355328; omega) | skip
    intro c hc1 hc2
    (repeat' (first | exact trivial | exact fun _ => rfl | exact rfl | refine And.intro ?_ ?_))
    refine ⟨.ret (.slice 1 1 0 1 c), [some (.roa 4 h.n (HD.F h)), some (.arr 1 1 c fun _ => [.snil])], ⟨c, ⟨hc1, hc2⟩, rfl, rfl⟩, ?_⟩
    refine ent_tau [0, 3] ⟨?_, ?_, rfl⟩
    · (repeat' (first | exact trivial | exact rfl | exact fun _ _ => rfl | exact fun _ _ _ _ => rfl | exact Or.inl rfl | exact Or.inr rfl | refine And.intro ?_ ?_))
      exact fun k hk => by
        obtain rfl : k = 0 := Nat.lt_one_iff.1 hk
        rfl
    · (repeat' (first | exact trivial | exact rfl | exact congrArg (SV.int .i64) (Int.natCast_succ _).symm | exact congrArg (SV.int .u64) (Int.natCast_succ _).symm | refine And.intro ?_ ?_))
  · exact absurd (by rw [h0]; rfl) (of_decide_eq_false hc)
end Go.Proofs.Ytgofhjihkinknaa
