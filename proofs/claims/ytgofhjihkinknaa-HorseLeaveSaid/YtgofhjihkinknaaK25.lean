/-
  Parts: Qp, Qq, Qu, Qv, Qw.
-/
import Derived.Test.YtgofhjihkinknaaK24
set_option linter.unusedVariables false
/-
  Contracts: horses without some moves.
-/
namespace Go.Proofs.Ytgofhjihkinknaa
open Go Go.Sy Kuhn
set_option linter.unusedSimpArgs false
set_option maxRecDepth 100000
set_option maxHeartbeats 4000000
attribute [local irreducible] CallP CodeP Ent YieldP
attribute [local irreducible] HD.ch maskO

/-- The moves that are left. -/
def keepL (S n : Nat) : List Nat := (List.range n).filter fun j => !S.testBit j
theorem keepL_yes {S n : Nat} (h : S.testBit n = false) : keepL S (n + 1) = keepL S n ++ [n] := by
  unfold keepL
  rw [List.range_succ, List.filter_append]
  simp [h]
theorem keepL_no {S n : Nat} (h : S.testBit n = true) : keepL S (n + 1) = keepL S n := by
  unfold keepL
  rw [List.range_succ, List.filter_append]
  simp [h]
theorem keepL_len (S n : Nat) : (keepL S n).length ≤ n := by
  have := List.length_filter_le (fun j => !S.testBit j) (List.range n)
  simpa [keepL] using this
theorem keepL_mem {S n j : Nat} : j ∈ keepL S n ↔ j < n ∧ S.testBit j = false := by
  simp [keepL]
theorem keepL_nodup (S n : Nat) : (keepL S n).Nodup := List.Pairwise.filter _ List.nodup_range
def ek (S n k : Nat) : Nat := (keepL S n).getD k 0
theorem ek_mem {S n k : Nat} (hk : k < (keepL S n).length) : ek S n k < n ∧ S.testBit (ek S n k) = false := by
  have : ek S n k ∈ keepL S n := by
    unfold ek
    rw [List.getD_eq_getElem?_getD, List.getElem?_eq_getElem hk]
    exact List.getElem_mem hk
  exact keepL_mem.1 this
theorem ek_inj {S n a b : Nat} (ha : a < (keepL S n).length) (hb : b < (keepL S n).length) (h : ek S n a = ek S n b) : a = b := by
  unfold ek at h
  rw [List.getD_eq_getElem?_getD, List.getD_eq_getElem?_getD, List.getElem?_eq_getElem ha, List.getElem?_eq_getElem hb] at h
  have hp := List.pairwise_iff_getElem.1 (keepL_nodup S n)
  simp only [Option.getD_some] at h
  rcases Nat.lt_trichotomy a b with c | c | c
  · exact absurd h (hp a b ha hb c)
  · exact c
  · exact absurd h.symm (hp b a hb ha c)
theorem ek_all {S n j : Nat} (hj : j < n) (h : S.testBit j = false) : ∃ a, a < (keepL S n).length ∧ ek S n a = j := by
  obtain ⟨a, ha, e⟩ := List.getElem_of_mem (keepL_mem.2 ⟨hj, h⟩)
  refine ⟨a, ha, ?_⟩
  unfold ek
  rw [List.getD_eq_getElem?_getD, List.getElem?_eq_getElem ha]
  exact e
/-- Horses without some moves. -/
def subD (h : HD) (S : Nat) (b : Bool) (cap : Nat) : HD := ⟨h.pace, (keepL S h.n).length, fun k => h.at' (ek S h.n k), fun k => h.pl (ek S h.n k), fun k => h.lo (ek S h.n k), fun k => h.hi (ek S h.n k), b, cap⟩
theorem sub_valid {h : HD} (hv : h.Valid) (S : Nat) (b : Bool) (cap : Nat) : (subD h S b cap).Valid :=
  ⟨hv.1, Nat.le_trans (keepL_len S h.n) hv.2.1, fun i hi => hv.2.2 _ (ek_mem hi).1⟩
theorem sub_emb {h : HD} (S : Nat) (b : Bool) (cap : Nat) (s : Bool) : HD.Emb (subD h S b cap) h s (ek S h.n) where
  lt := fun a ha => (ek_mem ha).1
  inj := fun a b ha hb e => ek_inj ha hb e
  can := fun a b _ _ => by
    cases s <;> rfl
theorem sub_few {h : HD} (hv : h.Valid) {S : Nat} (hS : S < 128) (b : Bool) (cap : Nat) (s : Bool) : (subD h S b cap).few s = h.need s (fun i => (sdiff h.every S).testBit i) := by
  rw [(sub_emb S b cap s).need (sub_valid hv S b cap) hv]
  have hn := hv.2.1
  refine HD.need_congr hv fun i hi => ?_
  rw [sdiff_bit (by omega), HD.every_bit, decide_eq_true hi, Bool.true_and]
  cases hb : S.testBit i with
  | false =>
    obtain ⟨a, ha, e⟩ := ek_all hi hb
    exact HD.img_iff.2 ⟨a, ha, e⟩
  | true =>
    cases hc : HD.img (subD h S b cap) (ek S h.n) i with
    | false => rfl
    | true =>
      obtain ⟨a, ha, e⟩ := HD.img_iff.1 hc
      have := (ek_mem ha).2
      rw [e, hb] at this
      cases this
def K44 (h : HD) (S : Nat) : CE → SHeap → Prop := fun ce h' =>
  ((keepL S h.n).length = 0 ∧ ce = .ret (.agg [.int .i64 h.pace, .snil]) ∧ h' = HD.H h) ∨
  (∃ k cap, (keepL S h.n).length = k + 1 ∧ k + 1 ≤ cap ∧ cap ≤ 9223372036854775807 ∧ ce = .ret (.agg [.int .i64 h.pace, .slice 1 4 0 (k + 1) cap]) ∧ h' = HD.H h ++ [some (.arr 4 (k + 1) cap (HD.F (subD h S true cap)))])
/-- What is left of the first ones. -/
def rowK (h : HD) (S i : Nat) (k : Nat) : List SV := HD.F h (ek S i k)
theorem ek_succ {S i k : Nat} (h : S.testBit i = false) (hk : k < (keepL S i).length) : ek S (i + 1) k = ek S i k := by
  unfold ek
  rw [keepL_yes h, List.getD_eq_getElem?_getD, List.getElem?_append_left hk, ← List.getD_eq_getElem?_getD]
theorem ek_last {S i : Nat} (h : S.testBit i = false) : ek S (i + 1) (keepL S i).length = i := by
  unfold ek
  rw [keepL_yes h, List.getD_eq_getElem?_getD]
  simp
theorem app4 (h : HD) (S i m : Nat) (hm : (keepL S i).length = m + 1) (hb : S.testBit i = false) (j : Nat) (hj : j = i) : ∀ q, q < m + 1 + 1 → selL (decide (q < m + 1)) (rowK h S i q) (getOf 4 (splice (repL 1 [SV.int .i64 0, SV.int .i64 0, SV.int .i64 0, SV.int .i64 0]) (0 * 4) [SV.int .i64 (h.at' j), SV.int .i64 (h.pl j), SV.int .i64 (h.lo j), SV.int .i64 (h.hi j)]) (0 + (q - (m + 1)))) = rowK h S (i + 1) q := by
  intro q hq
  subst hj
  by_cases c : q < m + 1
  · rw [decide_eq_true c, selL_true]
    unfold rowK
    rw [ek_succ hb (by omega)]
  · have e : q = m + 1 := by omega
    subst e
    rw [decide_eq_false c, selL_false, Nat.sub_self]
    unfold rowK
    have := ek_last hb
    rw [hm] at this
    rw [this]
    rfl
theorem t44 (h : HD) (hn : h.n ≤ 7) (S : Nat) (hS : S < 128) : CallP Try.prog 44 [HD.A h, .int .i64 S] (HD.H h) (K44 h S) := by
  have hS63 : S < 2 ^ 63 := by omega
  refine callK (E := E) E_ok Try.func44 rfl ?_
  (repeat' (first | exact trivial | exact fun _ => rfl | exact rfl | refine And.intro ?_ ?_))
  refine loopP E_ok [1, 2, 4, 5, 11, 12] (fun g : Nat × Nat × Nat => [(13, .int .i64 g.1)])
    (fun g _ => match g.2.1 with | 0 => HD.H h ++ [some (.roc (bc h)), some (.cells [.int .i64 0, .snil]), some (.cells [.int .i64 h.pace, .snil])] | k + 1 => HD.H h ++ [some (.roc (bc h)), some (.cells [.int .i64 0, .snil]), some (.cells [.int .i64 h.pace, .slice 4 4 0 (k + 1) g.2.2]), some (.arr 4 (k + 1) g.2.2 (rowK h S g.1))])
    (fun g => g.1 ≤ h.n ∧ g.2.1 = (keepL S g.1).length ∧ (0 < g.2.1 → g.2.1 ≤ g.2.2 ∧ g.2.2 ≤ 9223372036854775807)) (fun g => h.n - g.1) (0, 0, 0) ⟨Nat.zero_le _, rfl, fun h => absurd h (Nat.lt_irrefl 0)⟩ ?_ ?_
  · exact ent_tau [0, 1, 2, 3] ⟨by (repeat' (first | exact trivial | exact rfl | exact fun _ _ => rfl | exact fun _ _ _ _ => rfl | exact Or.inl rfl | exact Or.inr rfl | refine And.intro ?_ ?_)), by (repeat' (first | exact trivial | exact rfl | exact congrArg (SV.int .i64) (Int.natCast_succ _).symm | exact congrArg (SV.int .u64) (Int.natCast_succ _).symm | refine And.intro ?_ ?_)), rfl⟩
  rintro ⟨i, m, cap⟩ ⟨hi, hm, hcap⟩
  simp only at hi hm hcap
  have ei := z1 i
  have hkl := keepL_len S i
  have hh0 := has0 (n := i) hS63
  cases m with
  | zero =>
    refine And.intro ?_ (And.intro (fun hlt => ?_) (fun hlt => ?_))
    · (repeat' (first | exact trivial | exact fun _ => rfl | exact rfl | refine And.intro ?_ ?_))
    · have hlt' : i < h.n := by
        have := of_decide_eq_true hlt
        omega
      (repeat' (first | exact trivial | exact fun _ => rfl | exact rfl | refine And.intro ?_ ?_))
      all_goals first | (first | omega | exact u0 (by omega) | exact u1 (by omega) | exact u1 ⟨by omega, by omega⟩ | exact un (by omega) | exact fun hh => hh | exact fun hh => absurd hh (by decide) | exact fun hh => congrArg not hh | exact fun hh => Bool.noConfusion (show true = false from hh) | exact fun hh => Bool.noConfusion (show false = true from hh)) | exact u0 (lt64 (by omega)) | skip
      · intro hx
        have hx2 : decide (bitOp .and .i64 ((S : Int).fdiv (2 ^ ((i : Nat) : Int).toNat)) 1 = 0) = true := hx
        rw [Int.toNat_natCast, hh0] at hx2
        have hb : S.testBit i = false := by
          cases c : S.testBit i
          · rfl
          · rw [c] at hx2
            cases hx2
        (repeat' (first | exact trivial | exact fun _ => rfl | exact rfl | refine And.intro ?_ ?_))
        all_goals first | (first | omega | exact u0 (by omega) | exact u1 (by omega) | exact u1 ⟨by omega, by omega⟩ | exact un (by omega) | exact fun hh => hh | exact fun hh => absurd hh (by decide) | exact fun hh => congrArg not hh | exact fun hh => Bool.noConfusion (show true = false from hh) | exact fun hh => Bool.noConfusion (show false = true from hh)) | decide | skip
        intro c5 h51 h52
        (repeat' (first | exact trivial | exact fun _ => rfl | exact rfl | refine And.intro ?_ ?_))
        all_goals first | (first | omega | exact u0 (by omega) | exact u1 (by omega) | exact u1 ⟨by omega, by omega⟩ | exact un (by omega) | exact fun hh => hh | exact fun hh => absurd hh (by decide) | exact fun hh => congrArg not hh | exact fun hh => Bool.noConfusion (show true = false from hh) | exact fun hh => Bool.noConfusion (show false = true from hh)) | exact u0 (by omega) | skip
        refine ⟨(i + 1, 0 + 1, c5), ⟨hlt', by simp only; rw [keepL_yes hb, List.length_append, List.length_singleton, ← hm], fun _ => ⟨h51, h52⟩⟩, by simp only; omega, ?_⟩
        refine ent_tau [0, 1, 2, 3, 6] ⟨?_, by (repeat' (first | exact trivial | exact rfl | exact congrArg (SV.int .i64) (Int.natCast_succ _).symm | exact congrArg (SV.int .u64) (Int.natCast_succ _).symm | refine And.intro ?_ ?_)), rfl⟩
        (repeat' (first | exact trivial | exact rfl | exact fun _ _ => rfl | exact fun _ _ _ _ => rfl | exact Or.inl rfl | exact Or.inr rfl | refine And.intro ?_ ?_))
        exact fun q hq => by
          have h0 : q = 0 := Nat.lt_one_iff.1 hq
          subst h0
          have e := ek_last hb
          rw [← hm] at e
          show _ = HD.F h (ek S (i + 1) 0)
          rw [e]
          exact congrArg (HD.F h) ei
      · intro hx
        have hx2 : decide (bitOp .and .i64 ((S : Int).fdiv (2 ^ ((i : Nat) : Int).toNat)) 1 = 0) = false := hx
        rw [Int.toNat_natCast, hh0] at hx2
        have hb : S.testBit i = true := by
          cases c : S.testBit i
          · rw [c] at hx2
            cases hx2
          · rfl
        (repeat' (first | exact trivial | exact fun _ => rfl | exact rfl | refine And.intro ?_ ?_))
        all_goals first | exact True.intro | omega | exact u1 (lt64 (by omega)) | exact u0 (lt64 (by omega)) | (show under _ _; simp [under, gB, wB]; done) | (show under _ _; simp [under, gB, wB]; omega) | skip
        refine ⟨(i + 1, 0, 0), ⟨hlt', by simp only; rw [keepL_no hb]; exact hm, fun h => absurd h (Nat.lt_irrefl 0)⟩, by simp only; omega, ?_⟩
        exact ent_tau [0, 1, 2, 3] ⟨by (repeat' (first | exact trivial | exact rfl | exact fun _ _ => rfl | exact fun _ _ _ _ => rfl | exact Or.inl rfl | exact Or.inr rfl | refine And.intro ?_ ?_)), by (repeat' (first | exact trivial | exact rfl | exact congrArg (SV.int .i64) (Int.natCast_succ _).symm | exact congrArg (SV.int .u64) (Int.natCast_succ _).symm | refine And.intro ?_ ?_)), rfl⟩
    · have e : i = h.n := by
        have := of_decide_eq_false hlt
        simp only at this
        omega
      subst e
      (repeat' (first | exact trivial | exact fun _ => rfl | exact rfl | refine And.intro ?_ ?_))
      refine ⟨_, _, .inl ⟨hm.symm, rfl, rfl⟩, ?_⟩
      exact ent_tau [0] ⟨by (repeat' (first | exact trivial | exact rfl | exact fun _ _ => rfl | exact fun _ _ _ _ => rfl | exact Or.inl rfl | exact Or.inr rfl | refine And.intro ?_ ?_)), by (repeat' (first | exact trivial | exact rfl | exact congrArg (SV.int .i64) (Int.natCast_succ _).symm | exact congrArg (SV.int .u64) (Int.natCast_succ _).symm | refine And.intro ?_ ?_)), rfl⟩
  | succ m =>
    obtain ⟨hc1, hc2⟩ := hcap (by omega)
    refine And.intro ?_ (And.intro (fun hlt => ?_) (fun hlt => ?_))
    · (repeat' (first | exact trivial | exact fun _ => rfl | exact rfl | refine And.intro ?_ ?_))
    · have hlt' : i < h.n := by
        have := of_decide_eq_true hlt
        omega
      (repeat' (first | exact trivial | exact fun _ => rfl | exact rfl | refine And.intro ?_ ?_))
      all_goals first | (first | omega | exact u0 (by omega) | exact u1 (by omega) | exact u1 ⟨by omega, by omega⟩ | exact un (by omega) | exact fun hh => hh | exact fun hh => absurd hh (by decide) | exact fun hh => congrArg not hh | exact fun hh => Bool.noConfusion (show true = false from hh) | exact fun hh => Bool.noConfusion (show false = true from hh)) | exact u0 (lt64 (by omega)) | skip
      · intro hx
        have hx2 : decide (bitOp .and .i64 ((S : Int).fdiv (2 ^ ((i : Nat) : Int).toNat)) 1 = 0) = true := hx
        rw [Int.toNat_natCast, hh0] at hx2
        have hb : S.testBit i = false := by
          cases c : S.testBit i
          · rfl
          · rw [c] at hx2
            cases hx2
        (repeat' (first | exact trivial | exact fun _ => rfl | exact rfl | refine And.intro ?_ ?_))
        all_goals first | (first | omega | exact u0 (by omega) | exact u1 (by omega) | exact u1 ⟨by omega, by omega⟩ | exact un (by omega) | exact fun hh => hh | exact fun hh => absurd hh (by decide) | exact fun hh => congrArg not hh | exact fun hh => Bool.noConfusion (show true = false from hh) | exact fun hh => Bool.noConfusion (show false = true from hh)) | decide | (show _ * 32 ≤ 140737488355328; omega) | exact (fun k hk => by have h0 : k = 0 := Nat.lt_one_iff.1 hk; subst h0; rfl) | skip
        intro c5 h51 h52
        (repeat' (first | exact trivial | exact fun _ => rfl | exact rfl | refine And.intro ?_ ?_))
        all_goals first | (first | omega | exact u0 (by omega) | exact u1 (by omega) | exact u1 ⟨by omega, by omega⟩ | exact un (by omega) | exact fun hh => hh | exact fun hh => absurd hh (by decide) | exact fun hh => congrArg not hh | exact fun hh => Bool.noConfusion (show true = false from hh) | exact fun hh => Bool.noConfusion (show false = true from hh)) | exact u0 (by omega) | skip
        refine ⟨(i + 1, m + 1 + 1, c5), ⟨hlt', by simp only; rw [keepL_yes hb, List.length_append, List.length_singleton, ← hm], fun _ => ⟨h51, h52⟩⟩, by simp only; omega, ?_⟩
        refine ent_tau [0, 1, 2, 3, 7] ⟨?_, by (repeat' (first | exact trivial | exact rfl | exact congrArg (SV.int .i64) (Int.natCast_succ _).symm | exact congrArg (SV.int .u64) (Int.natCast_succ _).symm | refine And.intro ?_ ?_)), rfl⟩
        (repeat' (first | exact trivial | exact rfl | exact fun _ _ => rfl | exact fun _ _ _ _ => rfl | exact Or.inl rfl | exact Or.inr rfl | refine And.intro ?_ ?_))
        exact app4 h S i m hm.symm hb _ ei
      · intro hx
        have hx2 : decide (bitOp .and .i64 ((S : Int).fdiv (2 ^ ((i : Nat) : Int).toNat)) 1 = 0) = false := hx
        rw [Int.toNat_natCast, hh0] at hx2
        have hb : S.testBit i = true := by
          cases c : S.testBit i
          · rw [c] at hx2
            cases hx2
          · rfl
        (repeat' (first | exact trivial | exact fun _ => rfl | exact rfl | refine And.intro ?_ ?_))
        all_goals first | exact True.intro | omega | exact u1 (lt64 (by omega)) | exact u0 (lt64 (by omega)) | (show under _ _; simp [under, gB, wB]; done) | (show under _ _; simp [under, gB, wB]; omega) | skip
        refine ⟨(i + 1, m + 1, cap), ⟨hlt', by simp only; rw [keepL_no hb]; exact hm, fun _ => ⟨hc1, hc2⟩⟩, by simp only; omega, ?_⟩
        have hrk : rowK h S (i + 1) = rowK h S i := by
          unfold rowK ek
          rw [keepL_no hb]
        refine ent_tau [0, 1, 2, 3, 4] ⟨?_, by (repeat' (first | exact trivial | exact rfl | exact congrArg (SV.int .i64) (Int.natCast_succ _).symm | exact congrArg (SV.int .u64) (Int.natCast_succ _).symm | refine And.intro ?_ ?_)), rfl⟩
        (repeat' (first | exact trivial | exact rfl | exact fun _ _ => rfl | exact fun _ _ _ _ => rfl | exact Or.inl rfl | exact Or.inr rfl | refine And.intro ?_ ?_))
        exact fun q _ => (congrFun hrk q).symm
    · have e : i = h.n := by
        have := of_decide_eq_false hlt
        simp only at this
        omega
      subst e
      (repeat' (first | exact trivial | exact fun _ => rfl | exact rfl | refine And.intro ?_ ?_))
      refine ⟨_, _, .inr ⟨m, cap, hm.symm, hc1, hc2, rfl, rfl⟩, ?_⟩
      exact ent_tau [0, 4] ⟨by (repeat' (first | exact trivial | exact rfl | exact fun _ _ => rfl | exact fun _ _ _ _ => rfl | exact Or.inl rfl | exact Or.inr rfl | refine And.intro ?_ ?_)), by (repeat' (first | exact trivial | exact rfl | exact congrArg (SV.int .i64) (Int.natCast_succ _).symm | exact congrArg (SV.int .u64) (Int.natCast_succ _).symm | refine And.intro ?_ ?_)), rfl⟩
end Go.Proofs.Ytgofhjihkinknaa
/-
  Contracts: are so many horses enough without some moves?
-/
namespace Go.Proofs.Ytgofhjihkinknaa
open Go Go.Sy Kuhn
set_option linter.unusedSimpArgs false
set_option maxRecDepth 100000
set_option maxHeartbeats 4000000
attribute [local irreducible] CallP CodeP Ent YieldP
attribute [local irreducible] HD.ch maskO

/-- Fewest, of moves in a slice of one's own. -/
theorem t26s (x : HD) (hv : x.Valid) (hb : x.b = true) (s : Bool) (n : Nat) (hn : x.n = n) : CallP Try.prog 26 [.agg [.int .i64 x.pace, .slice 0 4 0 n x.cap], .bool s] [some (.roa 4 n (HD.F x))] (Ret (.tup [.int .i64 (x.few s : Nat), .slice 1 1 0 n n, .int .i64 0]) [some (.roa 4 n (HD.F x)), some (.arr 1 n n (plF x s))]) := by
  subst hn
  exact CallP.argsD (args' := [HD.A x, .bool s]) (fun η => by simp [den, denL, HD.A, hb]) (t26 x hv s)
/-- Fewest, of no moves. -/
theorem t26z (x : HD) (hv : x.Valid) (h0 : x.n = 0) (hb : x.b = false) (hc : x.cap = 0) (s : Bool) (n : Nat) (y : HD) : CallP Try.prog 26 [.agg [.int .i64 x.pace, .snil], .bool s] [some (.roa 4 n (HD.F y))] (Ret (.tup [.int .i64 (x.few s : Nat), .slice 1 1 0 x.n x.n, .int .i64 0]) [some (.roa 4 n (HD.F y)), some (.arr 1 x.n x.n (plF x s))]) := by
  have c := t26 x hv s
  have c2 : CallP Try.prog 26 [.agg [.int .i64 x.pace, .osl x.b 1 4 x.n x.cap], .bool s] [some (.roa 4 n (HD.F y)), some (.roa 4 0 (HD.F x))] (Ret (.tup [.int .i64 (x.few s : Nat), .slice 2 1 0 x.n x.n, .int .i64 0]) [some (.roa 4 n (HD.F y)), some (.roa 4 0 (HD.F x)), some (.arr 1 x.n x.n (plF x s))]) := by
    refine c.use [1] ?_ ?_ rfl
    · (repeat' (first | exact trivial | exact fun _ => rfl | exact rfl | refine And.intro ?_ ?_))
    · refine ⟨⟨rfl, h0.symm, fun k hk => ?_⟩, trivial⟩
      omega
  refine CallP.entR (h1 := [some (.roa 4 n (HD.F y)), some (.roa 4 0 (HD.F x)), some (.arr 1 x.n x.n (plF x s))]) (v := .tup [.int .i64 (x.few s : Nat), .slice 2 1 0 x.n x.n, .int .i64 0]) ?_ ?_
  · refine CallP.pre (args' := [.agg [.int .i64 x.pace, .osl x.b 1 4 x.n x.cap], .bool s]) ?_ c2
    refine entAliasR (T := argT [.agg [.int .i64 x.pace, .osl x.b 1 4 x.n x.cap], .bool s]) (H := [some (.roa 4 n (HD.F y))]) (entTm ?_) (i := 0) rfl
    refine ⟨rfl, fun η => ?_, rfl, fun η => rfl, trivial⟩
    rw [hb, h0, hc]
    simp [den, denL]
  · exact ent_tau [0, 2] ⟨by (repeat' (first | exact trivial | exact rfl | exact fun _ _ => rfl | exact fun _ _ _ _ => rfl | exact Or.inl rfl | exact Or.inr rfl | refine And.intro ?_ ?_)), by (repeat' (first | exact trivial | exact rfl | exact congrArg (SV.int .i64) (Int.natCast_succ _).symm | exact congrArg (SV.int .u64) (Int.natCast_succ _).symm | refine And.intro ?_ ?_)), rfl⟩
def B43 (h : HD) (s : Bool) (m : Int) : SHeap := HD.H h ++ [some (.roc (bc h)), some (.roc [.bool s]), some (.roc [.int .i64 m])]
theorem t43 (h : HD) (hv : h.Valid) (s : Bool) (m : Int) (S : Nat) (hS : S < 128) : CallP Try.prog 43 [.int .i64 S, .ptr 1 0, .ptr 2 0, .ptr 3 0] (B43 h s m) (Ret (.bool (okWo h s m S)) (B43 h s m)) := by
  have hn := hv.2.1
  unfold okWo
  have hf := fun b cap => sub_few hv hS b cap s
  obtain ⟨N, eN⟩ : ∃ N, h.need s (fun i => (sdiff h.every S).testBit i) = N := ⟨_, rfl⟩
  rw [eN] at hf ⊢
  have hf7 := few_le (subD h S false 0) s
  rw [hf] at hf7
  refine callR (E := E) E_ok Try.func43 rfl ?_
  (repeat' (first | exact trivial | exact fun _ => rfl | exact rfl | refine And.intro ?_ ?_))
  refine drawP E_ok [1, 2] pl43_1 (by kernel_rfl) ?_
  (repeat' (first | exact trivial | exact fun _ => rfl | exact rfl | refine And.intro ?_ ?_))
  refine CallP.frameH (t44 h hn S hS) [0] (by (repeat' (first | exact trivial | exact rfl | exact fun _ _ => rfl | exact fun _ _ _ _ => rfl | exact Or.inl rfl | exact Or.inr rfl | refine And.intro ?_ ?_))) rfl ?_
  rintro ce h' (⟨h0, rfl, rfl⟩ | ⟨k, cap, h0, hc1, hc2, rfl, rfl⟩)
  · have c := t26z (subD h S false 0) (sub_valid hv S false 0) h0 rfl rfl s h.n h
    rw [hf] at c
    refine ⟨rfl, ?_⟩
    (repeat' (first | exact trivial | exact fun _ => rfl | exact rfl | refine And.intro ?_ ?_))
    refine c.use [0] ?_ (by (repeat' (first | exact trivial | exact rfl | exact fun _ _ => rfl | exact fun _ _ _ _ => rfl | exact Or.inl rfl | exact Or.inr rfl | refine And.intro ?_ ?_))) rfl
    (repeat' (first | exact trivial | exact fun _ => rfl | exact rfl | refine And.intro ?_ ?_))
    all_goals first | exact True.intro | omega | exact u1 (lt64 (by omega)) | exact u0 (lt64 (by omega)) | (show under _ _; simp [under, gB, wB]; done) | (show under _ _; simp [under, gB, wB]; omega) | skip
    exact ent_tau [0, 1, 2, 3] ⟨by (repeat' (first | exact trivial | exact rfl | exact fun _ _ => rfl | exact fun _ _ _ _ => rfl | exact Or.inl rfl | exact Or.inr rfl | refine And.intro ?_ ?_)), by (repeat' (first | exact trivial | exact rfl | exact congrArg (SV.int .i64) (Int.natCast_succ _).symm | exact congrArg (SV.int .u64) (Int.natCast_succ _).symm | refine And.intro ?_ ?_)), rfl⟩
  · have c := t26s (subD h S true cap) (sub_valid hv S true cap) rfl s (k + 1) h0
    rw [hf] at c
    refine ⟨rfl, ?_⟩
    (repeat' (first | exact trivial | exact fun _ => rfl | exact rfl | refine And.intro ?_ ?_))
    refine c.use [4] ?_ (by (repeat' (first | exact trivial | exact rfl | exact fun _ _ => rfl | exact fun _ _ _ _ => rfl | exact Or.inl rfl | exact Or.inr rfl | refine And.intro ?_ ?_))) rfl
    (repeat' (first | exact trivial | exact fun _ => rfl | exact rfl | refine And.intro ?_ ?_))
    all_goals first | exact True.intro | omega | exact u1 (lt64 (by omega)) | exact u0 (lt64 (by omega)) | (show under _ _; simp [under, gB, wB]; done) | (show under _ _; simp [under, gB, wB]; omega) | skip
    exact ent_tau [0, 1, 2, 3] ⟨by (repeat' (first | exact trivial | exact rfl | exact fun _ _ => rfl | exact fun _ _ _ _ => rfl | exact Or.inl rfl | exact Or.inr rfl | refine And.intro ?_ ?_)), by (repeat' (first | exact trivial | exact rfl | exact congrArg (SV.int .i64) (Int.natCast_succ _).symm | exact congrArg (SV.int .u64) (Int.natCast_succ _).symm | refine And.intro ?_ ?_)), rfl⟩
end Go.Proofs.Ytgofhjihkinknaa
/-
  HorseLeave.
-/
namespace Go.Proofs.Ytgofhjihkinknaa
open Go Go.Sy Kuhn
set_option linter.unusedSimpArgs false
set_option maxRecDepth 100000
set_option maxHeartbeats 4000000
attribute [local irreducible] CallP CodeP Ent YieldP
attribute [local irreducible] HD.ch maskO

noncomputable def V11 (S : Nat) : List (Nat × SV) := [(4, .ptr 1 0), (8, .bool false), (10, .int .i64 S), (15, .fn (.func 43) [] [.ptr 1 0, .ptr 2 0, .ptr 3 0])]
noncomputable def T11 (S O : Nat) : Tm := mkT [] (V11 S ++ [(18, .int .i64 O), (19, .fn (.func 42) [] [])]) 0 (List.replicate 130 none)
theorem seg11t (h : HD) (hv : h.Valid) (s : Bool) (m : Int) (hm : 0 ≤ m) (O : Nat) (hO : O < 2 ^ h.n) : CodeP Try.prog none 1 (sufC Try.f11 10) ⟨T11 (lveS h s m) O, B43 h s m, []⟩ (KRet E Try.f11 1 (.bool true) (HD.H h)) := by
  have hn := hv.2.1
  have h7 : 2 ^ h.n ≤ 128 := Nat.pow_le_pow_right (n := 2) (by omega) hn
  obtain ⟨l1, l2, l3⟩ := lve_ok hv s hm
  have l4 := l3 O hO
  obtain ⟨S, eS⟩ : ∃ S, lveS h s m = S := ⟨_, rfl⟩
  rw [eS] at l1 l2 l4 ⊢
  obtain ⟨b, hb⟩ : ∃ b, okWo h s m O = b := ⟨_, rfl⟩
  have c43 := t43 h hv s m O (by omega)
  rw [hb] at c43 l4
  have cO := t42 O (by omega)
  have cS := t42 S (by omega)
  refine codeP_XK E_ok 100 ?_
  (repeat' (first | exact trivial | exact fun _ => rfl | exact rfl | refine And.intro ?_ ?_))
  refine c43.use [0, 1, 2, 3] ?_ (by (repeat' (first | exact trivial | exact rfl | exact fun _ _ => rfl | exact fun _ _ _ _ => rfl | exact Or.inl rfl | exact Or.inr rfl | refine And.intro ?_ ?_))) rfl
  clear c43
  cases b with
  | false =>
    all_goals (repeat' (first | exact trivial | exact fun _ => rfl | exact rfl | refine And.intro ?_ ?_))
    all_goals first | exact True.intro | omega | exact u1 (lt64 (by omega)) | exact u0 (lt64 (by omega)) | (show under _ _; simp [under, gB, wB]; done) | (show under _ _; simp [under, gB, wB]; omega) | skip
    all_goals intro g1
    all_goals first | exact absurd g1 (by decide) | skip
    all_goals (repeat' (first | exact trivial | exact fun _ => rfl | exact rfl | refine And.intro ?_ ?_))
    all_goals first | exact True.intro | omega | exact u1 (lt64 (by omega)) | exact u0 (lt64 (by omega)) | (show under _ _; simp [under, gB, wB]; done) | (show under _ _; simp [under, gB, wB]; omega) | skip
    all_goals intro g2
    all_goals first | exact absurd g2 (by decide) | skip
    all_goals (repeat' (first | exact trivial | exact fun _ => rfl | exact rfl | refine And.intro ?_ ?_))
    all_goals first | exact True.intro | omega | exact u1 (lt64 (by omega)) | exact u0 (lt64 (by omega)) | (show under _ _; simp [under, gB, wB]; done) | (show under _ _; simp [under, gB, wB]; omega) | skip
    all_goals intro g3
    all_goals first | exact absurd g3 (by decide) | skip
    all_goals (repeat' (first | exact trivial | exact fun _ => rfl | exact rfl | refine And.intro ?_ ?_))
    all_goals first | exact True.intro | omega | exact u1 (lt64 (by omega)) | exact u0 (lt64 (by omega)) | (show under _ _; simp [under, gB, wB]; done) | (show under _ _; simp [under, gB, wB]; omega) | skip
    all_goals intro g4
    all_goals first | exact absurd g4 (by decide) | skip
    all_goals (repeat' (first | exact trivial | exact fun _ => rfl | exact rfl | refine And.intro ?_ ?_))
    all_goals first | exact True.intro | omega | exact u1 (lt64 (by omega)) | exact u0 (lt64 (by omega)) | (show under _ _; simp [under, gB, wB]; done) | (show under _ _; simp [under, gB, wB]; omega) | skip
    all_goals intro g5
    all_goals first | (exfalso; revert g5; simp [gB, wB]; done) | skip
    refine t15.use [] ?_ trivial rfl
    (repeat' (first | exact trivial | exact fun _ => rfl | exact rfl | refine And.intro ?_ ?_))
    all_goals first | exact True.intro | omega | exact u1 (lt64 (by omega)) | exact u0 (lt64 (by omega)) | (show under _ _; simp [under, gB, wB]; done) | (show under _ _; simp [under, gB, wB]; omega) | skip
    refine ent_tau [0] ⟨by (repeat' (first | exact trivial | exact rfl | exact fun _ _ => rfl | exact fun _ _ _ _ => rfl | exact Or.inl rfl | exact Or.inr rfl | refine And.intro ?_ ?_)), ⟨rfl, ?_, trivial⟩, rfl⟩
    exact congrArg SV.bool (by simp)
  | true =>
    have hp : pop S < pop O ∨ (¬ pop S < pop O ∧ pop O = pop S ∧ S ≤ O) := by
      rcases l4 rfl with e | e
      · rw [← e]
        exact .inr ⟨by omega, rfl, Nat.le_refl _⟩
      · unfold Prior at e
        simp only at e
        omega
    obtain ⟨pO, eO⟩ : ∃ p, pop O = p := ⟨_, rfl⟩
    obtain ⟨pS, ePS⟩ : ∃ p, pop S = p := ⟨_, rfl⟩
    rw [eO] at cO hp
    rw [ePS] at cS hp
    all_goals (repeat' (first | exact trivial | exact fun _ => rfl | exact rfl | refine And.intro ?_ ?_))
    all_goals first | exact True.intro | omega | exact u1 (lt64 (by omega)) | exact u0 (lt64 (by omega)) | (show under _ _; simp [under, gB, wB]; done) | (show under _ _; simp [under, gB, wB]; omega) | skip
    all_goals intro hg
    all_goals first | exact absurd hg (by decide) | skip
    refine cO.use [] ?_ trivial rfl
    all_goals (repeat' (first | exact trivial | exact fun _ => rfl | exact rfl | refine And.intro ?_ ?_))
    all_goals first | exact True.intro | omega | exact u1 (lt64 (by omega)) | exact u0 (lt64 (by omega)) | (show under _ _; simp [under, gB, wB]; done) | (show under _ _; simp [under, gB, wB]; omega) | skip
    all_goals intro hg2
    all_goals first | exact absurd hg2 (by decide) | skip
    refine cS.use [] ?_ trivial rfl
    rcases hp with hp | hp
    · all_goals (repeat' (first | exact trivial | exact fun _ => rfl | exact rfl | refine And.intro ?_ ?_))
      all_goals first | exact True.intro | omega | exact u1 (lt64 (by omega)) | exact u0 (lt64 (by omega)) | (show under _ _; simp [under, gB, wB]; done) | (show under _ _; simp [under, gB, wB]; omega) | skip
      all_goals intro g1
      all_goals first | (exfalso; revert g1; simp [gB, wB, hp]; done) | skip
      all_goals (repeat' (first | exact trivial | exact fun _ => rfl | exact rfl | refine And.intro ?_ ?_))
      all_goals first | exact True.intro | omega | exact u1 (lt64 (by omega)) | exact u0 (lt64 (by omega)) | (show under _ _; simp [under, gB, wB]; done) | (show under _ _; simp [under, gB, wB]; omega) | skip
      all_goals intro g2
      all_goals first | (exfalso; revert g2; simp [gB, wB, hp]; done) | skip
      all_goals (repeat' (first | exact trivial | exact fun _ => rfl | exact rfl | refine And.intro ?_ ?_))
      all_goals first | exact True.intro | omega | exact u1 (lt64 (by omega)) | exact u0 (lt64 (by omega)) | (show under _ _; simp [under, gB, wB]; done) | (show under _ _; simp [under, gB, wB]; omega) | skip
      all_goals intro g3
      all_goals first | (exfalso; revert g3; simp [gB, wB, hp]; done) | skip
      refine t15.use [] ?_ trivial rfl
      (repeat' (first | exact trivial | exact fun _ => rfl | exact rfl | refine And.intro ?_ ?_))
      all_goals first | exact True.intro | omega | exact u1 (lt64 (by omega)) | exact u0 (lt64 (by omega)) | (show under _ _; simp [under, gB, wB]; done) | (show under _ _; simp [under, gB, wB]; omega) | skip
      refine ent_tau [0] ⟨by (repeat' (first | exact trivial | exact rfl | exact fun _ _ => rfl | exact fun _ _ _ _ => rfl | exact Or.inl rfl | exact Or.inr rfl | refine And.intro ?_ ?_)), ⟨rfl, ?_, trivial⟩, rfl⟩
      exact congrArg SV.bool (by simp [hp])
    · obtain ⟨h1, h2, h3⟩ := hp
      subst h2
      all_goals (repeat' (first | exact trivial | exact fun _ => rfl | exact rfl | refine And.intro ?_ ?_))
      all_goals first | exact True.intro | omega | exact u1 (lt64 (by omega)) | exact u0 (lt64 (by omega)) | (show under _ _; simp [under, gB, wB]; done) | (show under _ _; simp [under, gB, wB]; omega) | skip
      all_goals intro g1
      all_goals first | (exfalso; revert g1; simp [gB, wB]; done) | skip
      refine cO.use [] ?_ trivial rfl
      all_goals (repeat' (first | exact trivial | exact fun _ => rfl | exact rfl | refine And.intro ?_ ?_))
      all_goals first | exact True.intro | omega | exact u1 (lt64 (by omega)) | exact u0 (lt64 (by omega)) | (show under _ _; simp [under, gB, wB]; done) | (show under _ _; simp [under, gB, wB]; omega) | skip
      all_goals intro g2
      all_goals first | (exfalso; revert g2; simp [gB, wB]; done) | skip
      refine cS.use [] ?_ trivial rfl
      all_goals (repeat' (first | exact trivial | exact fun _ => rfl | exact rfl | refine And.intro ?_ ?_))
      all_goals first | exact True.intro | omega | exact u1 (lt64 (by omega)) | exact u0 (lt64 (by omega)) | (show under _ _; simp [under, gB, wB]; done) | (show under _ _; simp [under, gB, wB]; omega) | skip
      all_goals intro g3
      all_goals first | (exfalso; revert g3; simp [gB, wB, h3]; done) | skip
      refine t15.use [] ?_ trivial rfl
      (repeat' (first | exact trivial | exact fun _ => rfl | exact rfl | refine And.intro ?_ ?_))
      all_goals first | exact True.intro | omega | exact u1 (lt64 (by omega)) | exact u0 (lt64 (by omega)) | (show under _ _; simp [under, gB, wB]; done) | (show under _ _; simp [under, gB, wB]; omega) | skip
      refine ent_tau [0] ⟨by (repeat' (first | exact trivial | exact rfl | exact fun _ _ => rfl | exact fun _ _ _ _ => rfl | exact Or.inl rfl | exact Or.inr rfl | refine And.intro ?_ ?_)), ⟨rfl, ?_, trivial⟩, rfl⟩
      exact congrArg SV.bool (by simp [h3])
end Go.Proofs.Ytgofhjihkinknaa
/-
  HorseLeave: the moves that are told, one by one.
-/
namespace Go.Proofs.Ytgofhjihkinknaa
open Go Go.Sy Kuhn
set_option linter.unusedSimpArgs false
set_option maxRecDepth 100000
set_option maxHeartbeats 4000000
attribute [local irreducible] CallP CodeP Ent YieldP
attribute [local irreducible] HD.ch maskO

theorem pop_del {S i : Nat} (hS : S < 128) (hb : S.testBit i = true) : pop (sdiff S (2 ^ i)) < pop S := by
  have hi : i < 7 := by
    by_cases c : i < 7
    · exact c
    · rw [Nat.testBit_lt_two_pow (Nat.lt_of_lt_of_le hS (Nat.pow_le_pow_right (n := 2) (by omega) (show 7 ≤ i by omega)))] at hb
      cases hb
  unfold pop
  refine cnt_lt (k := i) (fun r hr h => ?_) hi ?_ hb
  · rw [sdiff_bit (by omega)] at h
    simp only [Bool.and_eq_true] at h
    exact h.1
  · rw [sdiff_bit (by omega), Nat.testBit_two_pow_self]
    simp
theorem lve_need {h : HD} (hv : h.Valid) {s : Bool} {m : Int} (hm : 0 ≤ m) {i : Nat} (hb : (lveS h s m).testBit i = true) : okWo h s m (sdiff (lveS h s m) (2 ^ i)) = false := by
  have hn := hv.2.1
  have h7 : 2 ^ h.n ≤ 128 := Nat.pow_le_pow_right (n := 2) (by omega) hn
  obtain ⟨l1, l2, l3⟩ := lve_ok hv s hm
  cases c : okWo h s m (sdiff (lveS h s m) (2 ^ i)) with
  | false => rfl
  | true =>
    have hd := pop_del (by omega) hb
    rcases l3 _ (sdiff_lt l1) c with e | e
    · rw [← e] at hd
      omega
    · unfold Prior at e
      simp only at e
      omega
theorem lve_zero {h : HD} (hv : h.Valid) {s : Bool} {m : Int} (hm : 0 ≤ m) : lveS h s m = 0 ↔ (h.few s : Int) ≤ m := by
  have hn := hv.2.1
  obtain ⟨l1, l2, l3⟩ := lve_ok hv s hm
  have e0 : okWo h s m 0 = decide ((h.few s : Int) ≤ m) := by
    unfold okWo
    have : h.need s (fun i => (sdiff h.every 0).testBit i) = h.few s := HD.need_congr hv fun i hi => by
      rw [sdiff_bit (by omega), HD.every_bit, decide_eq_true hi, Nat.zero_testBit]
      rfl
    rw [this]
  constructor
  · intro e
    rw [e, e0] at l2
    exact of_decide_eq_true l2
  · intro hle
    rcases l3 0 (Nat.pow_pos (by omega)) (by rw [e0]; exact decide_eq_true hle) with e | e
    · exact e
    · unfold Prior at e
      simp only at e
      have := pop_zero
      omega
noncomputable def T11l (S E2 : Nat) (bt : Int) : Tm := mkT [] (V11 S ++ [(3, .int .u8 bt), (16, .int .i64 E2)]) 0 (List.replicate 130 none)
theorem seg11l (h : HD) (hv : h.Valid) (s : Bool) (m : Int) (hm : 0 ≤ m) (bt : Int) (hbt : 0 ≤ bt ∧ bt ≤ 255) : CodeP Try.prog none 1 (sufC Try.f11 8) ⟨T11l (lveS h s m) (2 ^ h.n - 1) bt, B43 h s m, []⟩ (KRet E Try.f11 1 (.bool true) (HD.H h)) := by
  have hn := hv.2.1
  have h7 : 2 ^ h.n ≤ 128 := Nat.pow_le_pow_right (n := 2) (by omega) hn
  have h70 : 0 < 2 ^ h.n := Nat.pow_pos (by omega)
  obtain ⟨l1, _, _⟩ := lve_ok hv s hm
  have lneed := fun i => lve_need hv (s := s) hm (i := i)
  have tail := seg11t h hv s m hm (bt.toNat &&& (2 ^ h.n - 1)) (Nat.lt_of_le_of_lt Nat.and_le_right (by omega))
  have ebt : bitOp .and .i64 bt ((2 ^ h.n - 1 : Nat) : Int) = ((bt.toNat &&& (2 ^ h.n - 1) : Nat) : Int) := by
    have := and64 (a := bt.toNat) (b := 2 ^ h.n - 1) (by omega) (by omega)
    rw [show ((bt.toNat : Nat) : Int) = bt by omega] at this
    exact this
  obtain ⟨S, eS⟩ : ∃ S, lveS h s m = S := ⟨_, rfl⟩
  rw [eS] at l1 lneed tail ⊢
  have hS63 : S < 2 ^ 63 := by omega
  refine codeP_XK E_ok 2 ?_
  (repeat' (first | exact trivial | exact fun _ => rfl | exact rfl | refine And.intro ?_ ?_))
  refine loopP E_ok [3, 4, 8, 10, 15, 16, 78] (fun i : Nat => [(79, .int .i64 i)]) (fun _ H => H) (fun i => i ≤ h.n) (fun i => h.n - i) 0 (Nat.zero_le _) ?_ ?_
  · exact ent_tau [0, 1, 2, 3] ⟨by (repeat' (first | exact trivial | exact rfl | exact fun _ _ => rfl | exact fun _ _ _ _ => rfl | exact Or.inl rfl | exact Or.inr rfl | refine And.intro ?_ ?_)), by (repeat' (first | exact trivial | exact rfl | exact congrArg (SV.int .i64) (Int.natCast_succ _).symm | exact congrArg (SV.int .u64) (Int.natCast_succ _).symm | refine And.intro ?_ ?_)), rfl⟩
  rintro i hi
  refine And.intro ?_ (And.intro (fun hlt => ?_) (fun hlt => ?_))
  · (repeat' (first | exact trivial | exact fun _ => rfl | exact rfl | refine And.intro ?_ ?_))
  · have hlt' : i < h.n := by
      have := of_decide_eq_true hlt
      omega
    have hbit := has64 (n := i) hS63
    have ear : bitOp .andNot .i64 (S : Int) (1 * 2 ^ ((i : Nat) : Int).toNat) = ((sdiff S (2 ^ i) : Nat) : Int) := by
      rw [pow_int]
      exact andNot64 hS63
    have c43 := t43 h hv s m (sdiff S (2 ^ i)) (Nat.lt_of_lt_of_le (sdiff_lt l1) h7)
    rw [← ear] at c43
    have hpr : InR .i64 (1 * 2 ^ ((i : Nat) : Int).toNat) := by
      rw [pow_int]
      have : 2 ^ i ≤ 2 ^ 7 := Nat.pow_le_pow_right (by omega) (by omega)
      generalize 2 ^ i = p at this ⊢
      constructor <;> omega
    (repeat' (first | exact trivial | exact fun _ => rfl | exact rfl | refine And.intro ?_ ?_))
    all_goals first | exact True.intro | omega | exact u1 (lt64 (by omega)) | exact u0 (lt64 (by omega)) | (show under _ _; simp [under, gB, wB]; done) | (show under _ _; simp [under, gB, wB]; omega) | skip
    · exact fun _ => hpr
    · intro hg
      have hg2 : decide (bitOp .and .i64 ((S : Int).fdiv (2 ^ ((i : Nat) : Int).toNat)) 1 = 1) = true := by simpa [gB, wB] using hg
      have hT := hg2
      rw [Int.toNat_natCast, hbit] at hT
      rw [lneed i hT] at c43
      refine c43.use [0, 1, 2, 3] ?_ (by (repeat' (first | exact trivial | exact rfl | exact fun _ _ => rfl | exact fun _ _ _ _ => rfl | exact Or.inl rfl | exact Or.inr rfl | refine And.intro ?_ ?_))) rfl
      clear c43
      (repeat' (first | exact trivial | exact fun _ => rfl | exact rfl | refine And.intro ?_ ?_))
      all_goals first | exact True.intro | omega | exact u1 (lt64 (by omega)) | exact u0 (lt64 (by omega)) | (show under _ _; simp [under, gB, wB]; done) | (show under _ _; simp [under, gB, wB]; omega) | skip
      · intro hx
        exfalso
        revert hx
        simp
      · intro _
        (repeat' (first | exact trivial | exact fun _ => rfl | exact rfl | refine And.intro ?_ ?_))
        all_goals first | exact True.intro | omega | exact u1 (lt64 (by omega)) | exact u0 (lt64 (by omega)) | (show under _ _; simp [under, gB, wB]; done) | (show under _ _; simp [under, gB, wB]; omega) | skip
        refine ⟨i + 1, hlt', by omega, ?_⟩
        exact ent_tau [0, 1, 2, 3] ⟨by (repeat' (first | exact trivial | exact rfl | exact fun _ _ => rfl | exact fun _ _ _ _ => rfl | exact Or.inl rfl | exact Or.inr rfl | refine And.intro ?_ ?_)), by (repeat' (first | exact trivial | exact rfl | exact congrArg (SV.int .i64) (Int.natCast_succ _).symm | exact congrArg (SV.int .u64) (Int.natCast_succ _).symm | refine And.intro ?_ ?_)), rfl⟩
    · intro hg
      have hg2 : decide (bitOp .and .i64 ((S : Int).fdiv (2 ^ ((i : Nat) : Int).toNat)) 1 = 1) = false := by simpa [gB, wB] using hg
      (repeat' (first | exact trivial | exact fun _ => rfl | exact rfl | refine And.intro ?_ ?_))
      all_goals first | exact True.intro | omega | exact u1 (lt64 (by omega)) | exact u0 (lt64 (by omega)) | (show under _ _; simp [under, gB, wB]; done) | (show under _ _; simp [under, gB, wB]; omega) | skip
      · rw [hg2]
        exact fun hx => absurd hx (by decide)
      · intro hx
        exfalso
        revert hx
        rw [hg2]
        simp
      · intro _
        (repeat' (first | exact trivial | exact fun _ => rfl | exact rfl | refine And.intro ?_ ?_))
        all_goals first | exact True.intro | omega | exact u1 (lt64 (by omega)) | exact u0 (lt64 (by omega)) | (show under _ _; simp [under, gB, wB]; done) | (show under _ _; simp [under, gB, wB]; omega) | skip
        refine ⟨i + 1, hlt', by omega, ?_⟩
        exact ent_tau [0, 1, 2, 3] ⟨by (repeat' (first | exact trivial | exact rfl | exact fun _ _ => rfl | exact fun _ _ _ _ => rfl | exact Or.inl rfl | exact Or.inr rfl | refine And.intro ?_ ?_)), by (repeat' (first | exact trivial | exact rfl | exact congrArg (SV.int .i64) (Int.natCast_succ _).symm | exact congrArg (SV.int .u64) (Int.natCast_succ _).symm | refine And.intro ?_ ?_)), rfl⟩
  · (repeat' (first | exact trivial | exact fun _ => rfl | exact rfl | refine And.intro ?_ ?_))
    all_goals first | exact True.intro | omega | exact u1 (lt64 (by omega)) | exact u0 (lt64 (by omega)) | (show under _ _; simp [under, gB, wB]; done) | (show under _ _; simp [under, gB, wB]; omega) | skip
    refine CodeP.part tail ?_
    refine ent_tau [0, 1, 2, 3] ⟨by (repeat' (first | exact trivial | exact rfl | exact fun _ _ => rfl | exact fun _ _ _ _ => rfl | exact Or.inl rfl | exact Or.inr rfl | refine And.intro ?_ ?_)), ?_, rfl⟩
    (repeat' (first | exact trivial | exact rfl | exact congrArg (SV.int .i64) ebt | refine And.intro ?_ ?_))
end Go.Proofs.Ytgofhjihkinknaa
/-
  HorseLeave: the whole.
-/
namespace Go.Proofs.Ytgofhjihkinknaa
open Go Go.Sy Kuhn
set_option linter.unusedSimpArgs false
set_option maxRecDepth 100000
set_option maxHeartbeats 4000000
attribute [local irreducible] CallP CodeP Ent YieldP
attribute [local irreducible] HD.ch maskO

theorem t11 (h : HD) (s : Bool) (nb bt : Int) (hnb : 0 ≤ nb ∧ nb ≤ 255) (hbt : 0 ≤ bt ∧ bt ≤ 255) : CallP Try.prog 11 [HD.A h, .bool s, .int .u8 nb, .int .u8 bt] (HD.H h) (Ret (.bool true) (HD.H h)) := by
  obtain ⟨b, hb⟩ : ∃ b, vb h = b := ⟨_, rfl⟩
  have c33 := t33 h
  rw [hb] at c33
  refine callRK (E := E) E_ok 8 Try.func11 rfl ?_
  (repeat' (first | exact trivial | exact fun _ => rfl | exact rfl | refine And.intro ?_ ?_))
  refine c33.use [0] ?_ (by (repeat' (first | exact trivial | exact rfl | exact fun _ _ => rfl | exact fun _ _ _ _ => rfl | exact Or.inl rfl | exact Or.inr rfl | refine And.intro ?_ ?_))) rfl
  cases b with
  | false =>
    all_goals (repeat' (first | exact trivial | exact fun _ => rfl | exact rfl | refine And.intro ?_ ?_))
    all_goals first | exact True.intro | omega | exact u1 (lt64 (by omega)) | exact u0 (lt64 (by omega)) | (show under _ _; simp [under, gB, wB]; done) | (show under _ _; simp [under, gB, wB]; omega) | skip
    all_goals intro hx
    all_goals first | exact absurd hx (by decide) | skip
    (repeat' (first | exact trivial | exact fun _ => rfl | exact rfl | refine And.intro ?_ ?_))
    refine t15.use [] ?_ trivial rfl
    (repeat' (first | exact trivial | exact fun _ => rfl | exact rfl | refine And.intro ?_ ?_))
    all_goals first | exact True.intro | omega | exact u1 (lt64 (by omega)) | exact u0 (lt64 (by omega)) | (show under _ _; simp [under, gB, wB]; done) | (show under _ _; simp [under, gB, wB]; omega) | skip
    exact ent_tau [0] ⟨by (repeat' (first | exact trivial | exact rfl | exact fun _ _ => rfl | exact fun _ _ _ _ => rfl | exact Or.inl rfl | exact Or.inr rfl | refine And.intro ?_ ?_)), by (repeat' (first | exact trivial | exact rfl | exact congrArg (SV.int .i64) (Int.natCast_succ _).symm | exact congrArg (SV.int .u64) (Int.natCast_succ _).symm | refine And.intro ?_ ?_)), rfl⟩
  | true =>
    have hv := vb_iff.1 hb
    have hn := hv.2.1
    have h7 : 2 ^ h.n ≤ 128 := Nat.pow_le_pow_right (n := 2) (by omega) hn
    have h70 : 0 < 2 ^ h.n := Nat.pow_pos (by omega)
    have hm : 0 ≤ nb.tmod 8 ∧ nb.tmod 8 ≤ 7 := by
      have a := Int.tmod_nonneg 8 hnb.1
      have b := Int.tmod_lt_of_pos nb (show (0 : Int) < 8 by omega)
      omega
    have seg := seg11l h hv s (nb.tmod 8) hm.1 bt hbt
    have c31 := t31 h hv s (nb.tmod 8) (inB_iff.2 hm)
    have c26 := t26 h hv s
    have hz := lve_zero hv (s := s) hm.1
    obtain ⟨l1, l2, _⟩ := lve_ok hv s hm.1
    have c43 := t43 h hv s (nb.tmod 8) (lveS h s (nb.tmod 8)) (by omega)
    rw [l2] at c43
    have hle : ¬ ((lveS h s (nb.tmod 8) : Nat) : Int) > 1 * 2 ^ ((h.n : Nat) : Int).toNat - 1 := by
      rw [pow_int]
      omega
    have hpr : InR .i64 (1 * 2 ^ ((h.n : Nat) : Int).toNat) := by
      rw [pow_int]
      generalize 2 ^ h.n = p at h7 h70 ⊢
      constructor <;> omega
    have hpr2 : InR .i64 (1 * 2 ^ ((h.n : Nat) : Int).toNat - 1) := by
      rw [pow_int]
      generalize 2 ^ h.n = p at h7 h70 ⊢
      constructor <;> omega
    have hneg : ¬ ((lveS h s (nb.tmod 8) : Nat) : Int) < 0 := by omega
    all_goals (repeat' (first | exact trivial | exact fun _ => rfl | exact rfl | refine And.intro ?_ ?_))
    all_goals first | exact True.intro | omega | exact u1 (lt64 (by omega)) | exact u0 (lt64 (by omega)) | (show under _ _; simp [under, gB, wB]; done) | (show under _ _; simp [under, gB, wB]; omega) | skip
    all_goals intro hx
    all_goals first | exact absurd hx (by decide) | skip
    all_goals (repeat' (first | exact trivial | exact fun _ => rfl | exact rfl | refine And.intro ?_ ?_))
    all_goals first | exact True.intro | omega | exact u1 (lt64 (by omega)) | exact u0 (lt64 (by omega)) | (show under _ _; simp [under, gB, wB]; done) | (show under _ _; simp [under, gB, wB]; omega) | skip
    refine c31.use [0] ?_ (by (repeat' (first | exact trivial | exact rfl | exact fun _ _ => rfl | exact fun _ _ _ _ => rfl | exact Or.inl rfl | exact Or.inr rfl | refine And.intro ?_ ?_))) rfl
    all_goals (repeat' (first | exact trivial | exact fun _ => rfl | exact rfl | refine And.intro ?_ ?_))
    all_goals first | exact True.intro | omega | exact u1 (lt64 (by omega)) | exact u0 (lt64 (by omega)) | (show under _ _; simp [under, gB, wB]; done) | (show under _ _; simp [under, gB, wB]; omega) | skip
    refine c26.use [0] ?_ (by (repeat' (first | exact trivial | exact rfl | exact fun _ _ => rfl | exact fun _ _ _ _ => rfl | exact Or.inl rfl | exact Or.inr rfl | refine And.intro ?_ ?_))) rfl
    have hle2 : ¬ (2 : Int) ^ h.n - 1 < ((lveS h s (nb.tmod 8) : Nat) : Int) := by
      have := hle
      simpa using this
    (repeat' (first | exact trivial | exact fun _ => rfl | exact rfl | refine And.intro ?_ ?_))
    all_goals first | (first | omega | exact u0 (by omega) | exact u1 (by omega) | exact u1 ⟨by omega, by omega⟩ | exact un (by omega) | exact fun hh => hh | exact fun hh => absurd hh (by decide) | exact fun hh => congrArg not hh | exact fun hh => Bool.noConfusion (show true = false from hh) | exact fun hh => Bool.noConfusion (show false = true from hh)) | exact hpr.1 | exact hpr.2 | exact hpr2.1 | exact hpr2.2 | exact u0 (lt64 (by omega)) | skip
    all_goals first | exact True.intro | omega | exact u1 (lt64 (by omega)) | exact u0 (lt64 (by omega)) | (show under _ _; simp [under, gB, wB]; done) | (show under _ _; simp [under, gB, wB]; omega) | skip
    all_goals intro hg
    all_goals first | (exfalso; revert hg; simp [gB, wB, hneg, hle2]; done) | skip
    refine c43.use [0, 1, 2, 3] ?_ (by (repeat' (first | exact trivial | exact rfl | exact fun _ _ => rfl | exact fun _ _ _ _ => rfl | exact Or.inl rfl | exact Or.inr rfl | refine And.intro ?_ ?_))) rfl
    clear c31 c26 c43 c33
    (repeat' (first | exact trivial | exact fun _ => rfl | exact rfl | refine And.intro ?_ ?_))
    all_goals first | exact True.intro | omega | exact u1 (lt64 (by omega)) | exact u0 (lt64 (by omega)) | (show under _ _; simp [under, gB, wB]; done) | (show under _ _; simp [under, gB, wB]; omega) | skip
    · intro hx
      exfalso
      have hd : decide (((lveS h s (nb.tmod 8) : Nat) : Int) = 0) = decide (((h.few s : Nat) : Int) ≤ nb.tmod 8) := decide_eq_decide.2 (by rw [← hz]; omega)
      revert hx
      rw [hd]
      simp [hneg, hle2]
    · intro hx
      clear hx
      have e2 : (1 * 2 ^ ((h.n : Nat) : Int).toNat - 1 : Int) = ((2 ^ h.n - 1 : Nat) : Int) := by
        rw [pow_int]
        generalize 2 ^ h.n = p at h7 h70 ⊢
        omega
      (repeat' (first | exact trivial | exact fun _ => rfl | exact rfl | refine And.intro ?_ ?_))
      refine CodeP.pre ?_ seg
      refine ent_tau [0, 1, 2, 3] ⟨by (repeat' (first | exact trivial | exact rfl | exact fun _ _ => rfl | exact fun _ _ _ _ => rfl | exact Or.inl rfl | exact Or.inr rfl | refine And.intro ?_ ?_)), ?_, rfl⟩
      (repeat' (first | exact trivial | exact rfl | exact congrArg (SV.int .i64) e2 | refine And.intro ?_ ?_))
end Go.Proofs.Ytgofhjihkinknaa
