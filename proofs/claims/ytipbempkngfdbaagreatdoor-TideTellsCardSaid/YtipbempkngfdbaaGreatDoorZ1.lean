/-
  Contracts of the specification: Height, Sand, Depth, Count.
-/
import Derived.Test.YtipbempkngfdbaaGreatDoorK26
namespace Go.Proofs.YtipbempkngfdbaaGreatDoor
open Go Go.Sy
set_option linter.unusedSimpArgs false
set_option maxRecDepth 100000
set_option maxHeartbeats 4000000
attribute [local irreducible] CallP CodeP Ent YieldP

theorem t119r (t : TD) (hv : t.Valid) {i : Nat} (hi : i < t.hts.length) (ca : Nat) (m : Int) (hm : t.isMin m) :
    CallP Tryz.prog 38 [t.A, .row 3 i t.nM ca, .int .i64 m] (HP t) (Ret (.int .i64 (t.stand (hrow t.hts i) m)) (HP t)) := by
  have hM := hv.1
  refine CallP.entR (h1 := HP t ++ [some (.roa 1 t.nM fun m => [.int .i64 (hrow t.hts i m)])]) (v := .int .i64 (t.stand (hrow t.hts i) m)) ?_ ?_
  · refine CallP.row (j := 3) (args' := [t.A, .osl true 5 1 t.nM ca, .int .i64 m]) rfl i hi (show 0 < t.nM by omega) ?_ ?_
    · intro η b h1 h2
      have h1' : η 5 = some (b, 0) := h1
      simp only [denL, den, h1', Option.map_some]
      have := h2 t.nM ca
      simp only [den] at this
      rw [this]
    refine (t119 t hv (hrow t.hts i) (hrow_h hv hi) t.nM ca (Nat.le_refl _) (by omega) m hm).use [0, 1, 2, 5] ?_ (by (repeat' (first | exact trivial | exact rfl | exact fun _ _ => rfl | exact Or.inl rfl | refine And.intro ?_ ?_))) rfl
    exact ⟨rfl, rfl⟩
  · exact ent_tau [0, 1, 2, 3, 4] ⟨by (repeat' (first | exact trivial | exact rfl | exact fun _ _ => rfl | exact fun _ _ _ _ => rfl | exact Or.inl rfl | exact Or.inr rfl | refine And.intro ?_ ?_)), by (repeat' (first | exact trivial | exact rfl | exact congrArg (SV.int .i64) (Int.natCast_succ _).symm | refine And.intro ?_ ?_)), rfl⟩
theorem height_inv {t : TD} (hv : ¬ t.Valid) (m : Int) : t.height m = ⟨(0, 0), 1⟩ := by
  unfold TD.height
  rw [if_pos hv]
theorem height_arg {t : TD} (hv : t.Valid) {m : Int} (h : ¬ t.isMin m) : t.height m = ⟨(0, 0), 2⟩ := by
  unfold TD.height
  rw [if_neg (fun h => h hv), if_pos h]
theorem height_nil' {t : TD} (hv : t.Valid) (hn : t.tru = []) {m : Int} (h : t.isMin m) : t.height m = ⟨(0, 0), 10⟩ := by
  unfold TD.height
  rw [if_neg (fun h => h hv), if_neg (fun h2 => h2 h), if_pos ((all_nil hv).2 hn)]
theorem depth_inv {t : TD} (hv : ¬ t.Valid) (p m : Int) : t.depthT p m = ⟨(0, 0), 1⟩ := by
  unfold TD.depthT
  rw [if_pos hv]
theorem depth_arg {t : TD} (hv : t.Valid) {p m : Int} (h : ¬ (t.isPl p ∧ t.isMin m)) : t.depthT p m = ⟨(0, 0), 2⟩ := by
  unfold TD.depthT
  rw [if_neg (fun h => h hv), if_pos h]
theorem depth_nil' {t : TD} (hv : t.Valid) (hn : t.tru = []) {p m : Int} (h : t.isPl p ∧ t.isMin m) : t.depthT p m = ⟨(0, 0), 10⟩ := by
  unfold TD.depthT
  rw [if_neg (fun h => h hv), if_neg (fun h2 => h2 h), if_pos ((all_nil hv).2 hn)]
theorem sand_inv {t : TD} (hv : ¬ t.Valid) (p : Int) : t.sandT p = ⟨(0, 0), 1⟩ := by
  unfold TD.sandT
  rw [if_pos hv]
theorem sand_arg {t : TD} (hv : t.Valid) {p : Int} (h : ¬ t.isPl p) : t.sandT p = ⟨(0, 0), 2⟩ := by
  unfold TD.sandT
  rw [if_neg (fun h => h hv), if_pos h]
theorem sand_nil' {t : TD} (hv : t.Valid) (hn : t.tru = []) {p : Int} (h : t.isPl p) : t.sandT p = ⟨(0, 0), 10⟩ := by
  unfold TD.sandT
  rw [if_neg (fun h => h hv), if_neg (fun h2 => h2 h), if_pos ((all_nil hv).2 hn)]
def pl7_1 : Plan := .eager 0 <| .eager 1 <| .eager 2 <| .alt 3 (.alt 4 (.eager 5 <| .eager 6 <| .eager 7 <| .eager 8 <| .eager 9 <| .done) .no) .no
def pl9_1 : Plan := .eager 0 <| .eager 1 <| .eager 2 <| .alt 3 (.eager 4 <| .eager 5 <| .eager 6 <| .alt 7 (.eager 8 <| .alt 9 (.eager 10 <| .eager 11 <| .eager 12 <| .eager 13 <| .eager 14 <| .done) .no) .no) .no
def pl11_1 : Plan := .eager 0 <| .eager 1 <| .eager 2 <| .alt 3 (.alt 4 (.eager 5 <| .eager 6 <| .eager 7 <| .eager 8 <| .eager 9 <| .done) .no) .no
def pl13_1 : Plan := .eager 0 <| .eager 1 <| .eager 2 <| .alt 3 (.eager 4 <| .eager 5 <| .alt 6 (.eager 7 <| .eager 8 <| .eager 9 <| .alt 10 (.eager 11 <| .alt 12 (.eager 13 <| .eager 14 <| .eager 15 <| .eager 16 <| .eager 17 <| .done) .no) .no) .no) .no
def pl13_12 : Plan := .eager 0 <| .eager 1 <| .eager 2 <| .eager 3 <| .eager 4 <| .eager 5 <| .eager 6 <| .eager 8 <| .eager 9 <| .alt 7 (.alt 10 (.done) .no) .no
def pl17_1 : Plan := .eager 0 <| .eager 1 <| .eager 2 <| .alt 3 (.alt 4 (.eager 5 <| .eager 6 <| .eager 7 <| .eager 8 <| .eager 9 <| .done) .no) .no
def pl66_6 : Plan := .eager 0 <| .eager 1 <| .eager 2 <| .eager 3 <| .eager 4 <| .eager 5 <| .eager 6 <| .alt 7 (.eager 8 <| .done) .no
def pl7_8s : Plan := .eager 1 <| .eager 2 <| .eager 3 <| .eager 4 <| .eager 5 <| .eager 6 <| .eager 7 <| .alt 0 (.alt 8 (.alt 9 (.alt 10 .done .no) .no) .no) (.alt 8 (.alt 0 (.alt 9 (.alt 10 .done .no) .no) .no) .no)
def pl11_8s : Plan := .eager 1 <| .eager 2 <| .eager 3 <| .eager 4 <| .eager 5 <| .eager 6 <| .eager 7 <| .eager 8 <| .alt 0 (.alt 9 (.alt 10 .done .no) .no) .no
theorem zHeight (t : TD) (ht : t.ok) (hlong : max (max t.nM t.nS) t.nL ≤ 40) (m : Int) :
    CallP Tryz.prog 7 [t.A, .int .i64 m] t.H (Ret (.tup [.agg [.int .i64 (t.height m).v.1, .int .i64 (t.height m).v.2], .int .i64 (t.height m).e]) t.H) := by
  have c58 := t58 t (by omega) m
  obtain ⟨c, hc⟩ : ∃ c, (decide (0 < t.nM) && inB m (t.mi 0) (t.mi (t.nM - 1))) = c := ⟨_, rfl⟩
  rw [hc] at c58
  have arg : t.Valid → c = false → ¬ t.isMin m := fun hv h h3 => by
    have e3 : c = true := by rw [← hc]; simp only [inB, Bool.and_eq_true, decide_eq_true_eq]; exact ⟨by have := hv.1; omega, h3.1, h3.2⟩
    rw [e3] at h
    cases h
  have good : c = true → t.isMin m := fun h => by
    rw [← hc] at h
    simp only [inB, Bool.and_eq_true, decide_eq_true_eq] at h
    exact h.2
  refine callR (E := E) E_ok Tryz.func7 rfl ?_
  refine And.intro ?_ ?_
  · (repeat' (first | exact trivial | exact fun _ => rfl | exact rfl | refine And.intro ?_ ?_))
  refine drawP E_ok [3] pl7_1 (by kernel_rfl) ?_
  refine And.intro (And.intro ?_ ?_) trivial
  · (repeat' (first | exact True.intro | exact d1 _ | exact d1t _ | exact d2 _ | exact d3 _ _ | exact d3f _ _ | exact fun _ _ => rfl | exact fun _ => rfl | exact rfl | refine And.intro ?_ ?_))
  refine c58.use [0, 1, 2] ?_ (by (repeat' (first | exact trivial | exact rfl | exact fun _ _ => rfl | exact Or.inl rfl | refine And.intro ?_ ?_))) rfl
  refine And.intro (And.intro ?_ ?_) trivial
  · (repeat' (first | exact True.intro | exact d1 _ | exact d1t _ | exact d2 _ | exact d3 _ _ | exact d3f _ _ | exact fun _ _ => rfl | exact fun _ => rfl | exact rfl | refine And.intro ?_ ?_))
  refine CallP.frameH (t51 t ht c) [0, 1, 2] (by (repeat' (first | exact trivial | exact rfl | exact fun _ _ => rfl | exact Or.inl rfl | refine And.intro ?_ ?_))) rfl ?_
  rintro ce h' (⟨hv, rfl, rfl⟩ | ⟨hv, hf, rfl, rfl⟩ | ⟨hv, hf, hX, rfl, rfl⟩ | ⟨hv, hf, hX, c2, ia, ib, ca, cb, hI, hc2, rfl, rfl⟩)
  · refine ⟨rfl, ?_⟩
    refine And.intro ?_ ?_
    · (repeat' (first | exact True.intro | exact d1 _ | exact d1t _ | exact d2 _ | exact d3 _ _ | exact d3f _ _ | exact fun _ _ => rfl | exact fun _ => rfl | exact rfl | refine And.intro ?_ ?_))
    refine And.intro rfl ?_
    refine And.intro ?_ (And.intro (fun h3 => ?_) (fun h3 => ?_))
    · (repeat' (first | exact trivial | exact fun _ => rfl | exact rfl | refine And.intro ?_ ?_))
    · have e := height_inv hv m
      (repeat' (first | exact trivial | exact fun _ => rfl | exact rfl | refine And.intro ?_ ?_))
      rw [e]
      exact ent_tau [0, 1, 2] ⟨by (repeat' (first | exact trivial | exact rfl | exact fun _ _ => rfl | exact Or.inl rfl | refine And.intro ?_ ?_)), by (repeat' (first | exact trivial | exact rfl | exact congrArg (SV.int .i64) (Int.natCast_succ _).symm | refine And.intro ?_ ?_)), rfl⟩
    · exact absurd h3 (by decide)
  · refine ⟨rfl, ?_⟩
    refine And.intro ?_ ?_
    · (repeat' (first | exact True.intro | exact d1 _ | exact d1t _ | exact d2 _ | exact d3 _ _ | exact d3f _ _ | exact fun _ _ => rfl | exact fun _ => rfl | exact rfl | refine And.intro ?_ ?_))
    refine And.intro rfl ?_
    refine And.intro ?_ (And.intro (fun h3 => ?_) (fun h3 => ?_))
    · (repeat' (first | exact trivial | exact fun _ => rfl | exact rfl | refine And.intro ?_ ?_))
    · have e := height_arg hv (arg hv hf)
      (repeat' (first | exact trivial | exact fun _ => rfl | exact rfl | refine And.intro ?_ ?_))
      rw [e]
      exact ent_tau [0, 1, 2] ⟨by (repeat' (first | exact trivial | exact rfl | exact fun _ _ => rfl | exact Or.inl rfl | refine And.intro ?_ ?_)), by (repeat' (first | exact trivial | exact rfl | exact congrArg (SV.int .i64) (Int.natCast_succ _).symm | refine And.intro ?_ ?_)), rfl⟩
    · exact absurd h3 (by decide)
  · refine ⟨rfl, ?_⟩
    refine And.intro ?_ ?_
    · (repeat' (first | exact True.intro | exact d1 _ | exact d1t _ | exact d2 _ | exact d3 _ _ | exact d3f _ _ | exact fun _ _ => rfl | exact fun _ => rfl | exact rfl | refine And.intro ?_ ?_))
    refine And.intro rfl ?_
    refine And.intro ?_ (And.intro (fun h3 => ?_) (fun h3 => ?_))
    · (repeat' (first | exact trivial | exact fun _ => rfl | exact rfl | refine And.intro ?_ ?_))
    · have e := height_nil' hv hX (good hf)
      (repeat' (first | exact trivial | exact fun _ => rfl | exact rfl | refine And.intro ?_ ?_))
      rw [e]
      exact ent_tau [0, 1, 2] ⟨by (repeat' (first | exact trivial | exact rfl | exact fun _ _ => rfl | exact Or.inl rfl | refine And.intro ?_ ?_)), by (repeat' (first | exact trivial | exact rfl | exact congrArg (SV.int .i64) (Int.natCast_succ _).symm | refine And.intro ?_ ?_)), rfl⟩
    · exact absurd h3 (by decide)
  · refine ⟨rfl, ?_⟩
    refine And.intro ?_ ?_
    · (repeat' (first | exact True.intro | exact d1 _ | exact d1t _ | exact d2 _ | exact d3 _ _ | exact d3f _ _ | exact fun _ _ => rfl | exact fun _ => rfl | exact rfl | refine And.intro ?_ ?_))
    refine And.intro rfl ?_
    refine And.intro ?_ (And.intro (fun h3 => ?_) (fun h3 => ?_))
    · (repeat' (first | exact trivial | exact fun _ => rfl | exact rfl | refine And.intro ?_ ?_))
    · exact absurd h3 (by decide)
    have hm := good hf
    have fr := height_ref hv hX hm

    refine And.intro trivial ?_
    refine loopP E_ok [1, 2, 4, 6, 8] (fun i : Nat => [(9, .int .i64 i)]) (fun i _ => t.H ++ [some (.cells [.osl t.bM 0 3 t.nM t.cM, .osl t.bS 1 2 t.nS t.cS, .osl t.bL 2 4 t.nL t.cL]), some (.cells [.int .i64 0, .int .i64 0]), some (.arr 2 t.tru.length c2 (rowsT 6 7 t.nM t.nS ia ib ca cb)), some (poolL true t.nM t.hts), some (poolL true t.nS t.sds), some (.cells [.int .i64 (spF (fun i => t.stand (t.tru.getD i noTru).1 m) i).1, .int .i64 (spF (fun i => t.stand (t.tru.getD i noTru).1 m) i).2])])
      (fun i => i ≤ t.tru.length) (fun i => t.tru.length - i) 0 (Nat.zero_le _) ?_ ?_
    · exact ent_tau [0, 1, 2, 3, 4, 5, 6, 7, 8] ⟨by (repeat' (first | exact trivial | exact rfl | exact fun _ _ => rfl | exact fun _ _ _ _ => rfl | exact Or.inl rfl | exact Or.inr rfl | refine And.intro ?_ ?_)), by (repeat' (first | exact trivial | exact rfl | exact congrArg (SV.int .i64) (Int.natCast_succ _).symm | refine And.intro ?_ ?_)), rfl⟩
    rintro i hi
    have e1 : 0 + ((i : Nat) : Int).toNat = i := by omega
    refine And.intro ?_ (And.intro (fun hc => ?_) (fun hc => ?_))
    · (repeat' (first | exact trivial | exact fun _ => rfl | exact rfl | refine And.intro ?_ ?_))
    · have hlt : i < t.tru.length := by
        have := of_decide_eq_true hc
        omega
      have a := hI.a i hlt
      have b := hI.b i hlt
      have c119 : CallP Tryz.prog 38 [t.A, .row 3 (ia (0 + ((i : Nat) : Int).toNat)) t.nM (ca (0 + ((i : Nat) : Int).toNat)), .int .i64 m] (HP t) (Ret (.int .i64 (t.stand (t.tru.getD i noTru).1 m)) (HP t)) := by
        rw [e1, ← a.2]
        exact t119r t hv a.1 _ m hm
      have hd := stand_tru hv hm (truD_mem hlt)
      refine And.intro trivial ?_
      refine drawP E_ok [3, 5, 6, 7] pl7_8s (by kernel_rfl) ?_
      (repeat' (first | exact trivial | exact fun _ => rfl | exact rfl | refine And.intro ?_ ?_))
      all_goals first | omega | exact un (by omega) | skip
      all_goals refine c119.use [0, 1, 2, 6, 7] ?_ (by (repeat' (first | exact trivial | exact rfl | exact fun _ _ => rfl | exact fun _ _ _ _ => rfl | exact Or.inl rfl | exact Or.inr rfl | refine And.intro ?_ ?_))) rfl
      all_goals (repeat' (first | exact trivial | exact fun _ => rfl | exact rfl | refine And.intro ?_ ?_))
      all_goals first | omega | exact un (by omega) | skip
      all_goals refine (t99 _ _ _).use [] ?_ trivial rfl
      all_goals (repeat' (first | exact trivial | exact fun _ => rfl | exact rfl | refine And.intro ?_ ?_))
      all_goals first | omega | exact un (by omega) | skip
      all_goals refine ⟨i + 1, hlt, by omega, ?_⟩
      all_goals refine ent_tau [0, 1, 2, 3, 4, 5, 6, 7, 8] ⟨?_, ?_, rfl⟩
      all_goals first | (repeat' (first | exact trivial | exact rfl | exact fun _ _ => rfl | exact fun _ _ _ _ => rfl | exact Or.inl rfl | exact Or.inr rfl | refine And.intro ?_ ?_)) | skip
      all_goals (repeat' (first | exact trivial | exact rfl | exact congrArg (SV.int .i64) (Int.natCast_succ _).symm | refine And.intro ?_ ?_))
    · have e : i = t.tru.length := by
        have := of_decide_eq_false hc
        omega
      subst e
      (repeat' (first | exact trivial | exact fun _ => rfl | exact rfl | refine And.intro ?_ ?_))
      rw [fr]
      exact ent_tau [0, 1, 2] ⟨by (repeat' (first | exact trivial | exact rfl | exact fun _ _ => rfl | exact fun _ _ _ _ => rfl | exact Or.inl rfl | exact Or.inr rfl | refine And.intro ?_ ?_)), by (repeat' (first | exact trivial | exact rfl | exact congrArg (SV.int .i64) (Int.natCast_succ _).symm | refine And.intro ?_ ?_)), rfl⟩
theorem zCount (t : TD) (ht : t.ok) : CallP Tryz.prog 15 [t.A] t.H (Ret (.tup [.int .i64 t.countT.v, .int .i64 t.countT.e]) t.H) := by
  have c34 := t34 t ht
  refine callR (E := E) E_ok Tryz.func15 rfl ?_
  refine And.intro ?_ ?_
  · (repeat' (first | exact trivial | exact fun _ => rfl | exact rfl | refine And.intro ?_ ?_))
  refine c34.use [0, 1, 2] ?_ (by (repeat' (first | exact trivial | exact rfl | exact fun _ _ => rfl | exact Or.inl rfl | refine And.intro ?_ ?_))) rfl
  refine And.intro ?_ (And.intro (fun h1 => ?_) (fun h1 => ?_))
  · (repeat' (first | exact trivial | exact fun _ => rfl | exact rfl | refine And.intro ?_ ?_))
  · have hv : ¬ t.Valid := by
      intro h
      rw [valid_iff.2 h] at h1
      cases h1
    have e : t.countT = ⟨0, 1⟩ := by
      unfold TD.countT
      rw [if_pos hv]
    rw [e]
    (repeat' (first | exact trivial | exact fun _ => rfl | exact rfl | refine And.intro ?_ ?_))
    exact ent_tau [0, 1, 2] ⟨by (repeat' (first | exact trivial | exact rfl | exact fun _ _ => rfl | exact Or.inl rfl | refine And.intro ?_ ?_)), by (repeat' (first | exact trivial | exact rfl | exact congrArg (SV.int .i64) (Int.natCast_succ _).symm | refine And.intro ?_ ?_)), rfl⟩
  have hv : t.Valid := by
    cases h : t.valid
    · rw [h] at h1
      cases h1
    · exact valid_iff.1 h
  rw [count_tru hv]
  refine And.intro ?_ ?_
  · (repeat' (first | exact trivial | exact fun _ => rfl | exact rfl | refine And.intro ?_ ?_))
  refine CallP.frameH (t68 t hv) [0, 1, 2] (by (repeat' (first | exact trivial | exact rfl | exact fun _ _ => rfl | exact Or.inl rfl | refine And.intro ?_ ?_))) rfl ?_
  rintro ce h' (⟨hX, rfl, rfl⟩ | ⟨hX, c, ia, ib, ca, cb, hI, hc, rfl, rfl⟩)
  · refine ⟨rfl, ?_⟩
    (repeat' (first | exact trivial | exact fun _ => rfl | exact rfl | refine And.intro ?_ ?_))
    rw [hX]
    exact ent_tau [0, 1, 2] ⟨by (repeat' (first | exact trivial | exact rfl | exact fun _ _ => rfl | exact Or.inl rfl | refine And.intro ?_ ?_)), by (repeat' (first | exact trivial | exact rfl | exact congrArg (SV.int .i64) (Int.natCast_succ _).symm | refine And.intro ?_ ?_)), rfl⟩
  · refine ⟨rfl, ?_⟩
    (repeat' (first | exact trivial | exact fun _ => rfl | exact rfl | refine And.intro ?_ ?_))
    exact ent_tau [0, 1, 2] ⟨by (repeat' (first | exact trivial | exact rfl | exact fun _ _ => rfl | exact fun _ _ _ _ => rfl | exact Or.inl rfl | exact Or.inr rfl | refine And.intro ?_ ?_)), by (repeat' (first | exact trivial | exact rfl | exact congrArg (SV.int .i64) (Int.natCast_succ _).symm | refine And.intro ?_ ?_)), rfl⟩
end Go.Proofs.YtipbempkngfdbaaGreatDoor
