/-
  Parts: Sl, Sm.
-/
import Derived.Test.YtgofhjihkinknaaK25
set_option linter.unusedVariables false
/-
  HorseTurned: the turned moves, and the turned plan.
-/
namespace Go.Proofs.Ytgofhjihkinknaa
open Go Go.Sy Kuhn
set_option linter.unusedSimpArgs false
set_option maxRecDepth 100000
set_option maxHeartbeats 4000000
attribute [local irreducible] CallP CodeP Ent YieldP
set_option maxHeartbeats 40000000
attribute [local irreducible] HD.ch maskO

def V13l (h : HD) (s : Bool) (nb : Int) (p : PD) : List (Nat × SV) := [(2, .bool s), (3, .int .u8 nb), (4, .ptr 2 0), (8, .bool false), (9, .int .i64 h.n), (10, .ptr 3 0), (11, .osl p.b 4 1 p.n p.cap), (12, .slice 5 1 0 h.n h.n)]
noncomputable def T13l (h : HD) (s : Bool) (nb : Int) (p : PD) : Tm := mkT [] (V13l h s nb p) 0 (List.replicate 314 none)
theorem seg13k (h : HD) (hv : h.Valid) (b : Bool) (c : Nat) (s : Bool) (nb : Int) (hnb : 0 ≤ nb ∧ nb ≤ 255) (y p : PD) (hp : pok h p = true) :
    CodeP Try.prog none 2 (sufC Try.f13 8) ⟨T13l h s nb p, HD.H h ++ [some (.roa 1 y.n (BDF y)), some (.roc (bc h)), some (.roc [.int .i64 h.pace, .osl b 6 4 h.n c]), some (.roa 1 p.n (PD.F p)), some (.roa 1 h.n (PD.F (rvP h p))), some (.roa 4 h.n (HD.F (rvD h b c)))], []⟩ (KRet E Try.f13 2 (.bool true) (H13 h y)) := by
  have hn := hv.2.1
  refine codeP_XK E_ok 1 ?_
  (repeat' (first | exact trivial | exact fun _ => rfl | exact rfl | refine And.intro ?_ ?_))
  all_goals first | (first | omega | exact u0 (by omega) | exact u1 (by omega) | exact u1 ⟨by omega, by omega⟩ | exact un (by omega) | exact fun hh => hh | exact fun hh => absurd hh (by decide) | exact fun hh => congrArg not hh | exact fun hh => Bool.noConfusion (show true = false from hh) | exact fun hh => Bool.noConfusion (show false = true from hh)) | (show _ * 32 ≤ 140737488355328; omega) | exact fun k hk => rfl | skip
  intro cap h1 h2
  (repeat' (first | exact trivial | exact fun _ => rfl | exact rfl | refine And.intro ?_ ?_))
  refine CodeP.part (seg13w h hv b c s nb hnb y p hp cap) ?_
  refine entTmR (T := mkT [] [(3, .int .u8 nb), (2, .bool s), (4, .ptr 2 0), (8, .bool false), (9, .int .i64 h.n), (10, .ptr 4 0), (11, .osl p.b 6 1 p.n p.cap), (12, .slice 7 1 0 h.n h.n), (15, .slice 3 4 0 (0 + h.n) cap)] 0 (List.replicate 314 none)) ?_ ?_
  · refine ent_tau [0, 1, 2, 8, 3, 6, 4, 5] ⟨?_, by (repeat' (first | exact trivial | exact rfl | exact congrArg (SV.int .i64) (Int.natCast_succ _).symm | exact congrArg (SV.int .u64) (Int.natCast_succ _).symm | refine And.intro ?_ ?_)), rfl⟩
    (repeat' (first | exact trivial | exact rfl | exact fun _ _ => rfl | exact fun _ _ _ _ => rfl | exact Or.inl rfl | exact Or.inr rfl | refine And.intro ?_ ?_))
    · exact Nat.zero_add _
    · intro k hk
      show selL (decide (k < 0)) _ (HD.F h (0 + (k - 0))) = HD.F h k
      rw [decide_eq_false (by omega), selL_false, Nat.sub_zero, Nat.zero_add]
  · (repeat' (first | exact trivial | exact rfl | exact fun η => rfl | exact fun η => by simp [den, rvP] | refine And.intro ?_ ?_))
def rowQ (h : HD) (p : PD) (i k : Nat) : List SV := [.int .i64 (if h.n ≤ k + i then p.p (rv h.n k) else 0)]
theorem rowQ_end (h : HD) (p : PD) (k : Nat) : rowQ h p h.n k = [.int .i64 (p.p (rv h.n k))] := by
  unfold rowQ
  rw [if_pos (by omega)]
def H13l (h : HD) (y p : PD) (i : Nat) (cs : List SV) : SHeap := HD.H h ++ [some (.roa 1 y.n (BDF y)), some (.roc (bc h)), some (.cells (.int .i64 h.pace :: cs)), some (.roa 1 p.n (PD.F p)), some (.arr 1 h.n h.n (rowQ h p i))]
theorem seg13k1 (h : HD) (hv : h.Valid) (c : Nat) (s : Bool) (nb : Int) (hnb : 0 ≤ nb ∧ nb ≤ 255) (y p : PD) (hp : pok h p = true) (N : Nat) (hN : h.n = N) :
    CodeP Try.prog none 2 (sufC Try.f13 8) ⟨T13l h s nb p, H13l h y p h.n [.slice 6 4 0 N c] ++ [some (.arr 4 N c (HD.F (rvD h true 0)))], []⟩ (KRet E Try.f13 2 (.bool true) (H13 h y)) := by
  subst hN
  refine CodeP.pre (entCells (i := 3) (cs' := [.int .i64 h.pace, .osl true 6 4 h.n c]) rfl (fun η => by simp [denL, den])) (CodeP.pre ?_ (seg13k h hv true c s nb hnb y p hp))
  refine ent_tau [0, 1, 2, 3, 4, 5, 6] ⟨?_, by (repeat' (first | exact trivial | exact rfl | exact congrArg (SV.int .i64) (Int.natCast_succ _).symm | exact congrArg (SV.int .u64) (Int.natCast_succ _).symm | refine And.intro ?_ ?_)), rfl⟩
  (repeat' (first | exact trivial | exact rfl | exact fun _ _ => rfl | exact fun _ _ _ _ => rfl | exact Or.inl rfl | exact Or.inr rfl | refine And.intro ?_ ?_))
  exact fun k _ => rowQ_end h p k
theorem seg13k0 (h : HD) (hv : h.Valid) (s : Bool) (nb : Int) (hnb : 0 ≤ nb ∧ nb ≤ 255) (y p : PD) (hp : pok h p = true) (h0 : h.n = 0) :
    CodeP Try.prog none 2 (sufC Try.f13 8) ⟨T13l h s nb p, H13l h y p h.n [.snil], []⟩ (KRet E Try.f13 2 (.bool true) (H13 h y)) := by
  refine CodeP.pre (entCells (i := 3) (cs' := [.int .i64 h.pace, .osl false 6 4 h.n 0]) rfl (fun η => by simp [denL, den, h0])) (CodeP.pre ((entAlias (i := 0) rfl 4 (HD.F (rvD h false 0))).trans ?_) (seg13k h hv false 0 s nb hnb y p hp))
  refine ent_tau [0, 1, 2, 3, 4, 5, 6] ⟨?_, by (repeat' (first | exact trivial | exact rfl | exact congrArg (SV.int .i64) (Int.natCast_succ _).symm | exact congrArg (SV.int .u64) (Int.natCast_succ _).symm | refine And.intro ?_ ?_)), rfl⟩
  (repeat' (first | exact trivial | exact rfl | exact fun _ _ => rfl | exact fun _ _ _ _ => rfl | exact Or.inl rfl | exact Or.inr rfl | refine And.intro ?_ ?_))
  · exact fun k _ => rowQ_end h p k
  · exact h0.symm
theorem rowQ_step (h : HD) (p : PD) (i k j : Nat) (hi : i < h.n) (hk : k < h.n) (hj : j = i) (m : Nat) (hm : m = rv h.n i) : selL (decide (k = m)) (splice (rowQ h p i m) 0 [.int .i64 (p.p j)]) (rowQ h p i k) = rowQ h p (i + 1) k := by
  subst hj
  subst hm
  by_cases c : k = rv h.n j
  · subst c
    rw [decide_eq_true rfl, selL_true]
    show [SV.int .i64 (p.p j)] = [SV.int .i64 (if h.n ≤ rv h.n j + (j + 1) then p.p (rv h.n (rv h.n j)) else 0)]
    rw [if_pos (by unfold rv; omega), rv_rv hi]
  · rw [decide_eq_false c, selL_false]
    unfold rowQ
    by_cases d : h.n ≤ k + j
    · rw [if_pos d, if_pos (by omega)]
    · rw [if_neg d, if_neg (by unfold rv at c; omega)]
theorem app13 (h : HD) (m j : Nat) (hj : j = rv h.n (m + 1)) : ∀ q, q < m + 1 + 1 → selL (decide (q < m + 1)) (HD.F (rvD h true 0) q) (getOf 4 (splice (repL 1 [SV.int .i64 0, SV.int .i64 0, SV.int .i64 0, SV.int .i64 0]) (0 * 4) [SV.int .i64 (h.at' j), SV.int .i64 (30 - h.pl j), SV.int .i64 (h.lo j), SV.int .i64 (h.hi j)]) (0 + (q - (m + 1)))) = HD.F (rvD h true 0) q := by
  intro q hq
  subst hj
  by_cases c : q < m + 1
  · rw [decide_eq_true c, selL_true]
  · have e : q = m + 1 := by omega
    subst e
    rw [decide_eq_false c, selL_false, Nat.sub_self]
    rfl
theorem app13z (h : HD) (j : Nat) (hj : j = rv h.n 0) : getOf 4 (splice (repL 1 [SV.int .i64 0, SV.int .i64 0, SV.int .i64 0, SV.int .i64 0]) (0 * 4) [SV.int .i64 (h.at' j), SV.int .i64 (30 - h.pl j), SV.int .i64 (h.lo j), SV.int .i64 (h.hi j)]) (0 + 0) = HD.F (rvD h true 0) 0 := by
  subst hj
  rfl
theorem seg13l (h : HD) (hv : h.Valid) (s : Bool) (nb : Int) (hnb : 0 ≤ nb ∧ nb ≤ 255) (y p : PD) (hp : pok h p = true) :
    CodeP Try.prog none 2 (sufC Try.f13 7) ⟨T13l h s nb p, H13l h y p 0 [.snil], []⟩ (KRet E Try.f13 2 (.bool true) (H13 h y)) := by
  have hn := hv.2.1
  have hpn : p.n = h.n := by
    unfold pok at hp
    simp only [Bool.and_eq_true, decide_eq_true_eq] at hp
    exact hp.1
  refine codeP_XK E_ok 1 ?_
  (repeat' (first | exact trivial | exact fun _ => rfl | exact rfl | refine And.intro ?_ ?_))
  refine loopP E_ok [2, 3, 4, 8, 9, 10, 11, 12, 62, 63] (fun g : Nat × Nat => [(64, .int .i64 g.1)])
    (fun g _ => match g.1 with | 0 => H13l h y p 0 [.snil] | k + 1 => H13l h y p (k + 1) [.slice 6 4 0 (k + 1) g.2] ++ [some (.arr 4 (k + 1) g.2 (HD.F (rvD h true 0)))])
    (fun g => g.1 ≤ h.n ∧ (0 < g.1 → g.1 ≤ g.2 ∧ g.2 ≤ 9223372036854775807)) (fun g => h.n - g.1) (0, 0) ⟨Nat.zero_le _, fun h => absurd h (Nat.lt_irrefl 0)⟩ ?_ ?_
  · exact ent_tau [0, 1, 2, 3, 4, 5] ⟨by (repeat' (first | exact trivial | exact rfl | exact fun _ _ => rfl | exact fun _ _ _ _ => rfl | exact Or.inl rfl | exact Or.inr rfl | refine And.intro ?_ ?_)), by (repeat' (first | exact trivial | exact rfl | exact congrArg (SV.int .i64) (Int.natCast_succ _).symm | exact congrArg (SV.int .u64) (Int.natCast_succ _).symm | refine And.intro ?_ ?_)), rfl⟩
  rintro ⟨i, c2⟩ ⟨hi, hcap⟩
  simp only at hi hcap
  cases i with
  | zero =>
    refine And.intro ?_ (And.intro (fun hlt => ?_) (fun hlt => ?_))
    · (repeat' (first | exact trivial | exact fun _ => rfl | exact rfl | refine And.intro ?_ ?_))
    · have hlt' : 0 < h.n := by
        have := of_decide_eq_true hlt
        omega
      have hq := hv.2.2 (0 + ((h.n : Int) - 1 - ((0, c2).1 : Nat)).toNat) (by show 0 + ((h.n : Int) - 1 - ((0 : Nat) : Int)).toNat < h.n; omega)
      unfold HD.okMv at hq
      (repeat' (first | exact trivial | exact fun _ => rfl | exact rfl | refine And.intro ?_ ?_))
      all_goals first | (first | omega | exact u0 (by omega) | exact u1 (by omega) | exact u1 ⟨by omega, by omega⟩ | exact un (by omega) | exact fun hh => hh | exact fun hh => absurd hh (by decide) | exact fun hh => congrArg not hh | exact fun hh => Bool.noConfusion (show true = false from hh) | exact fun hh => Bool.noConfusion (show false = true from hh)) | exact u0 (by omega) | decide | skip
      intro c5 h51 h52
      (repeat' (first | exact trivial | exact fun _ => rfl | exact rfl | refine And.intro ?_ ?_))
      all_goals first | (first | omega | exact u0 (by omega) | exact u1 (by omega) | exact u1 ⟨by omega, by omega⟩ | exact un (by omega) | exact fun hh => hh | exact fun hh => absurd hh (by decide) | exact fun hh => congrArg not hh | exact fun hh => Bool.noConfusion (show true = false from hh) | exact fun hh => Bool.noConfusion (show false = true from hh)) | exact u0 (by omega) | (show under none _; exact u0 (by show 0 + ((h.n : Int) - 1 - ((0 : Nat) : Int)).toNat < h.n; omega)) | skip
      refine ⟨(0 + 1, c5), ⟨hlt', fun _ => ⟨h51, h52⟩⟩, by simp only; omega, ?_⟩
      refine ent_tau [0, 1, 2, 3, 4, 5, 8] ⟨?_, by (repeat' (first | exact trivial | exact rfl | exact congrArg (SV.int .i64) (Int.natCast_succ _).symm | exact congrArg (SV.int .u64) (Int.natCast_succ _).symm | refine And.intro ?_ ?_)), rfl⟩
      (repeat' (first | exact trivial | exact rfl | exact fun _ _ => rfl | exact fun _ _ _ _ => rfl | exact Or.inl rfl | exact Or.inr rfl | refine And.intro ?_ ?_))
      · exact fun k hk => rowQ_step h p 0 k _ hlt' hk (z1 0) _ (by
          show 0 + ((h.n : Int) - 1 - ((0 : Nat) : Int)).toNat = rv h.n 0
          unfold rv
          omega)
      · exact fun q hq0 => by
          have h0 : q = 0 := Nat.lt_one_iff.1 hq0
          subst h0
          exact app13z h _ (by
            show 0 + ((h.n : Int) - 1 - ((0 : Nat) : Int)).toNat = rv h.n 0
            unfold rv
            omega)
    · have e : h.n = 0 := by
        have := of_decide_eq_false hlt
        simp only at this
        omega
      (repeat' (first | exact trivial | exact fun _ => rfl | exact rfl | refine And.intro ?_ ?_))
      refine CodeP.part (seg13k0 h hv s nb hnb y p hp e) ?_
      refine ent_tau [0, 1, 2, 3, 4, 5] ⟨?_, by (repeat' (first | exact trivial | exact rfl | exact congrArg (SV.int .i64) (Int.natCast_succ _).symm | exact congrArg (SV.int .u64) (Int.natCast_succ _).symm | refine And.intro ?_ ?_)), rfl⟩
      (repeat' (first | exact trivial | exact rfl | exact fun _ _ => rfl | exact fun _ _ _ _ => rfl | exact Or.inl rfl | exact Or.inr rfl | refine And.intro ?_ ?_))
      intro k hk
      omega
  | succ m =>
    obtain ⟨hc1, hc2⟩ := hcap (by omega)
    refine And.intro ?_ (And.intro (fun hlt => ?_) (fun hlt => ?_))
    · (repeat' (first | exact trivial | exact fun _ => rfl | exact rfl | refine And.intro ?_ ?_))
    · have hlt' : m + 1 < h.n := by
        have := of_decide_eq_true hlt
        simp only at this
        omega
      have hq := hv.2.2 (0 + ((h.n : Int) - 1 - ((m + 1, c2).1 : Nat)).toNat) (by show 0 + ((h.n : Int) - 1 - ((m + 1 : Nat) : Int)).toNat < h.n; omega)
      unfold HD.okMv at hq
      (repeat' (first | exact trivial | exact fun _ => rfl | exact rfl | refine And.intro ?_ ?_))
      all_goals first | (first | omega | exact u0 (by omega) | exact u1 (by omega) | exact u1 ⟨by omega, by omega⟩ | exact un (by omega) | exact fun hh => hh | exact fun hh => absurd hh (by decide) | exact fun hh => congrArg not hh | exact fun hh => Bool.noConfusion (show true = false from hh) | exact fun hh => Bool.noConfusion (show false = true from hh)) | exact u0 (by omega) | (show _ * 32 ≤ 140737488355328; omega) | exact (fun k hk => by have h0 : k = 0 := Nat.lt_one_iff.1 hk; subst h0; rfl) | skip
      intro c5 h51 h52
      (repeat' (first | exact trivial | exact fun _ => rfl | exact rfl | refine And.intro ?_ ?_))
      all_goals first | (first | omega | exact u0 (by omega) | exact u1 (by omega) | exact u1 ⟨by omega, by omega⟩ | exact un (by omega) | exact fun hh => hh | exact fun hh => absurd hh (by decide) | exact fun hh => congrArg not hh | exact fun hh => Bool.noConfusion (show true = false from hh) | exact fun hh => Bool.noConfusion (show false = true from hh)) | exact u0 (by omega) | skip
      refine ⟨(m + 1 + 1, c5), ⟨hlt', fun _ => ⟨h51, h52⟩⟩, by simp only; omega, ?_⟩
      refine ent_tau [0, 1, 2, 3, 4, 5, 9] ⟨?_, by (repeat' (first | exact trivial | exact rfl | exact congrArg (SV.int .i64) (Int.natCast_succ _).symm | exact congrArg (SV.int .u64) (Int.natCast_succ _).symm | refine And.intro ?_ ?_)), rfl⟩
      (repeat' (first | exact trivial | exact rfl | exact fun _ _ => rfl | exact fun _ _ _ _ => rfl | exact Or.inl rfl | exact Or.inr rfl | refine And.intro ?_ ?_))
      · exact fun k hk => rowQ_step h p (m + 1) k _ hlt' hk (z1 (m + 1)) _ (by
          show 0 + ((h.n : Int) - 1 - ((m + 1 : Nat) : Int)).toNat = rv h.n (m + 1)
          unfold rv
          omega)
      · exact app13 h m _ (by
          show 0 + ((h.n : Int) - 1 - ((m + 1 : Nat) : Int)).toNat = rv h.n (m + 1)
          unfold rv
          omega)
    · have e : h.n = m + 1 := by
        have := of_decide_eq_false hlt
        simp only at this
        omega
      (repeat' (first | exact trivial | exact fun _ => rfl | exact rfl | refine And.intro ?_ ?_))
      refine CodeP.part (seg13k1 h hv c2 s nb hnb y p hp (m + 1) e) ?_
      refine ent_tau [0, 1, 2, 3, 4, 5, 6] ⟨?_, by (repeat' (first | exact trivial | exact rfl | exact congrArg (SV.int .i64) (Int.natCast_succ _).symm | exact congrArg (SV.int .u64) (Int.natCast_succ _).symm | refine And.intro ?_ ?_)), rfl⟩
      (repeat' (first | exact trivial | exact rfl | exact fun _ _ => rfl | exact fun _ _ _ _ => rfl | exact Or.inl rfl | exact Or.inr rfl | refine And.intro ?_ ?_))
      intro k hk
      show rowQ h p (m + 1) k = rowQ h p h.n k
      rw [e]
end Go.Proofs.Ytgofhjihkinknaa
/-
  HorseTurned: the beginning.
-/
namespace Go.Proofs.Ytgofhjihkinknaa
open Go Go.Sy Kuhn
set_option linter.unusedSimpArgs false
set_option maxRecDepth 100000
set_option maxHeartbeats 4000000
attribute [local irreducible] CallP CodeP Ent YieldP
set_option maxHeartbeats 40000000
attribute [local irreducible] HD.ch maskO

def V13m (h : HD) (s : Bool) (nb : Int) : List (Nat × SV) := [(2, .bool s), (3, .int .u8 nb), (4, .ptr 2 0), (8, .bool false), (9, .int .i64 h.n), (10, .ptr 3 0)]
noncomputable def T13m (h : HD) (s : Bool) (nb : Int) (p : PD) : Tm := mkT [] (V13m h s nb ++ [(11, .osl p.b 4 1 p.n p.cap)]) 0 (List.replicate 314 none)
theorem seg13m (h : HD) (hv : h.Valid) (s : Bool) (nb : Int) (hnb : 0 ≤ nb ∧ nb ≤ 255) (y p : PD) (hp : pok h p = true) :
    CodeP Try.prog none 2 (sufC Try.f13 6) ⟨T13m h s nb p, HD.H h ++ [some (.roa 1 y.n (BDF y)), some (.roc (bc h)), some (.cells [.int .i64 h.pace, .snil]), some (.roa 1 p.n (PD.F p))], []⟩ (KRet E Try.f13 2 (.bool true) (H13 h y)) := by
  have hn := hv.2.1
  refine codeP_XK E_ok 1 ?_
  (repeat' (first | exact trivial | exact fun _ => rfl | exact rfl | refine And.intro ?_ ?_))
  all_goals first | (first | omega | exact u0 (by omega) | exact u1 (by omega) | exact u1 ⟨by omega, by omega⟩ | exact un (by omega) | exact fun hh => hh | exact fun hh => absurd hh (by decide) | exact fun hh => congrArg not hh | exact fun hh => Bool.noConfusion (show true = false from hh) | exact fun hh => Bool.noConfusion (show false = true from hh)) | exact u0 (by omega) | skip
  · have e : ti3.bytes = 8 := rfl
    rw [e]
    omega
  refine CodeP.part (seg13l h hv s nb hnb y p hp) ?_
  refine ent_tau [0, 1, 2, 3, 4, 5] ⟨?_, by (repeat' (first | exact trivial | exact rfl | exact congrArg (SV.int .i64) (Int.natCast_succ _).symm | exact congrArg (SV.int .u64) (Int.natCast_succ _).symm | refine And.intro ?_ ?_)), rfl⟩
  (repeat' (first | exact trivial | exact rfl | exact fun _ _ => rfl | exact fun _ _ _ _ => rfl | exact Or.inl rfl | exact Or.inr rfl | refine And.intro ?_ ?_))
  intro k hk
  have hk' : k < ((h.n : Nat) : Int).toNat := hk
  show [SV.int .i64 0] = [SV.int .i64 (if h.n ≤ k + 0 then p.p (rv h.n k) else 0)]
  rw [if_neg (by omega)]
theorem t13 (h : HD) (y : PD) (hy : BOk y) (hyn : y.n ≤ 9223372036854775807) (s : Bool) (nb : Int) (hnb : 0 ≤ nb ∧ nb ≤ 255) : CallP Try.prog 13 [HD.A h, .osl y.b 1 1 y.n y.cap, .bool s, .int .u8 nb] (H13 h y) (Ret (.bool true) (H13 h y)) := by
  obtain ⟨b, hb⟩ : ∃ b, vb h = b := ⟨_, rfl⟩
  have c33 := t33 h
  rw [hb] at c33
  refine callRK (E := E) E_ok 6 Try.func13 rfl ?_
  (repeat' (first | exact trivial | exact fun _ => rfl | exact rfl | refine And.intro ?_ ?_))
  refine c33.use [0] ?_ (by (repeat' (first | exact trivial | exact rfl | exact fun _ _ => rfl | exact fun _ _ _ _ => rfl | exact Or.inl rfl | exact Or.inr rfl | refine And.intro ?_ ?_))) rfl
  cases b with
  | false =>
    all_goals (repeat' (first | exact trivial | exact fun _ => rfl | exact rfl | refine And.intro ?_ ?_))
    all_goals first | exact True.intro | omega | exact u1 (lt64 (by omega)) | exact u0 (lt64 (by omega)) | (show under _ _; simp [under, gB, wB]; done) | (show under _ _; simp [under, gB, wB]; omega) | skip
    all_goals intro hx
    all_goals first | exact absurd hx (by decide) | skip
    (repeat' (first | exact trivial | exact fun _ => rfl | exact rfl | refine And.intro ?_ ?_))
    refine t15.use [] ?_ trivial rfl
    (repeat' (first | exact trivial | exact fun _ => rfl | exact rfl | refine And.intro ?_ ?_))
    all_goals first | exact True.intro | omega | exact u1 (lt64 (by omega)) | exact u0 (lt64 (by omega)) | (show under _ _; simp [under, gB, wB]; done) | (show under _ _; simp [under, gB, wB]; omega) | skip
    exact ent_tau [0, 1] ⟨by (repeat' (first | exact trivial | exact rfl | exact fun _ _ => rfl | exact fun _ _ _ _ => rfl | exact Or.inl rfl | exact Or.inr rfl | refine And.intro ?_ ?_)), by (repeat' (first | exact trivial | exact rfl | exact congrArg (SV.int .i64) (Int.natCast_succ _).symm | exact congrArg (SV.int .u64) (Int.natCast_succ _).symm | refine And.intro ?_ ?_)), rfl⟩
  | true =>
    have hv := vb_iff.1 hb
    all_goals (repeat' (first | exact trivial | exact fun _ => rfl | exact rfl | refine And.intro ?_ ?_))
    all_goals first | exact True.intro | omega | exact u1 (lt64 (by omega)) | exact u0 (lt64 (by omega)) | (show under _ _; simp [under, gB, wB]; done) | (show under _ _; simp [under, gB, wB]; omega) | skip
    all_goals intro hx
    all_goals first | exact absurd hx (by decide) | skip
    (repeat' (first | exact trivial | exact fun _ => rfl | exact rfl | refine And.intro ?_ ?_))
    refine CallP.frameH (t34 h hv y hy hyn) [0, 1] (by (repeat' (first | exact trivial | exact rfl | exact fun _ _ => rfl | exact fun _ _ _ _ => rfl | exact Or.inl rfl | exact Or.inr rfl | refine And.intro ?_ ?_))) rfl ?_
    rintro ce h' (⟨h0, rfl, rfl⟩ | ⟨k, cap, h0, hc1, hc2, rfl, rfl⟩)
    · refine ⟨rfl, ?_⟩
      (repeat' (first | exact trivial | exact fun _ => rfl | exact rfl | refine And.intro ?_ ?_))
      refine CodeP.pre ?_ (seg13m h hv s nb hnb y (mkD y 0 false 0) (pok_mk hy h0.symm false 0))
      refine entPlan0 (T := mkT [] (V13m h s nb ++ [(11, .snil)]) 0 (List.replicate 314 none)) (H := HD.H h ++ [some (.roa 1 y.n (BDF y)), some (.roc (bc h)), some (.cells [.int .i64 h.pace, .snil])]) ?_ ?_ (i := 0) rfl
      · exact ent_tau [0, 1, 2, 3] ⟨by (repeat' (first | exact trivial | exact rfl | exact fun _ _ => rfl | exact fun _ _ _ _ => rfl | exact Or.inl rfl | exact Or.inr rfl | refine And.intro ?_ ?_)), by (repeat' (first | exact trivial | exact rfl | exact congrArg (SV.int .i64) (Int.natCast_succ _).symm | exact congrArg (SV.int .u64) (Int.natCast_succ _).symm | refine And.intro ?_ ?_)), rfl⟩
      · (repeat' (first | exact trivial | exact rfl | exact fun η => rfl | exact fun η => by simp [den, mkD] | refine And.intro ?_ ?_))
    · refine ⟨rfl, ?_⟩
      (repeat' (first | exact trivial | exact fun _ => rfl | exact rfl | refine And.intro ?_ ?_))
      refine CodeP.pre ?_ (seg13m h hv s nb hnb y (mkD y (k + 1) true cap) (pok_mk hy h0.symm true cap))
      refine entTmR (T := mkT [] (V13m h s nb ++ [(11, .slice 4 1 0 (k + 1) cap)]) 0 (List.replicate 314 none)) ?_ ?_
      · exact ent_tau [0, 1, 2, 3, 4] ⟨by (repeat' (first | exact trivial | exact rfl | exact fun _ _ => rfl | exact fun _ _ _ _ => rfl | exact Or.inl rfl | exact Or.inr rfl | refine And.intro ?_ ?_)), by (repeat' (first | exact trivial | exact rfl | exact congrArg (SV.int .i64) (Int.natCast_succ _).symm | exact congrArg (SV.int .u64) (Int.natCast_succ _).symm | refine And.intro ?_ ?_)), rfl⟩
      · (repeat' (first | exact trivial | exact rfl | exact fun η => rfl | exact fun η => by simp [den, mkD] | refine And.intro ?_ ?_))
end Go.Proofs.Ytgofhjihkinknaa
