/-
  Parts: Td, Te.
-/
import Derived.Test.YtgofhjihkinknaaN26
import Derived.Test.YtgofhjihkinknaaN25
set_option linter.unusedVariables false
/-
  HorseEnds: what is no plan, of no moves.
-/
namespace Go.Proofs.Ytgofhjihkinknaa
open Go Go.Sy Kuhn
set_option linter.unusedSimpArgs false
set_option maxRecDepth 100000
set_option maxHeartbeats 4000000
attribute [local irreducible] CallP CodeP Ent YieldP
set_option maxHeartbeats 80000000
attribute [local irreducible] HD.ch maskO

theorem seg7yA (h : HD) (hv : h.Valid) (y : PD) (h0 : h.n = 0) :
    CodeP Try.prog none 2 (sufC Try.f7 13) ⟨mkT [] [(3, .ptr 2 0), (6, .bool false), (11, .snil)] 0 (List.replicate 320 none), H7z h y, []⟩ (KRet E Try.f7 2 (.bool true) (H7 h y)) := by
  have hn := hv.2.1
  refine codeP_XK E_ok 1 ?_
  (repeat' (first | exact trivial | exact fun _ => rfl | exact rfl | refine And.intro ?_ ?_))
  refine drawP E_ok [] pl7_38 (by kernel_rfl) ?_
  (repeat' (first | exact trivial | exact fun _ => rfl | exact rfl | refine And.intro ?_ ?_))
  all_goals first | (first | omega | exact u0 (by omega) | exact u1 (by omega) | exact u1 ⟨by omega, by omega⟩ | exact un (by omega) | exact fun hh => hh | exact fun hh => absurd hh (by decide) | exact fun hh => congrArg not hh | exact fun hh => Bool.noConfusion (show true = false from hh) | exact fun hh => Bool.noConfusion (show false = true from hh)) | (show _ * 8 ≤ 140737488355328; omega) | exact fun k hk => rfl | decide | skip
  all_goals intro c1 a1 b1
  all_goals (repeat' (first | exact trivial | exact fun _ => rfl | exact rfl | refine And.intro ?_ ?_))
  all_goals first | (first | omega | exact u0 (by omega) | exact u1 (by omega) | exact u1 ⟨by omega, by omega⟩ | exact un (by omega) | exact fun hh => hh | exact fun hh => absurd hh (by decide) | exact fun hh => congrArg not hh | exact fun hh => Bool.noConfusion (show true = false from hh) | exact fun hh => Bool.noConfusion (show false = true from hh)) | (show _ * 8 ≤ 140737488355328; omega) | exact fun k hk => rfl | decide | skip
  all_goals intro c2 a2 b2
  all_goals (repeat' (first | exact trivial | exact fun _ => rfl | exact rfl | refine And.intro ?_ ?_))
  all_goals first | (first | omega | exact u0 (by omega) | exact u1 (by omega) | exact u1 ⟨by omega, by omega⟩ | exact un (by omega) | exact fun hh => hh | exact fun hh => absurd hh (by decide) | exact fun hh => congrArg not hh | exact fun hh => Bool.noConfusion (show true = false from hh) | exact fun hh => Bool.noConfusion (show false = true from hh)) | (show _ * 8 ≤ 140737488355328; omega) | exact fun k hk => rfl | decide | skip
  all_goals intro c3 a3 b3
  all_goals (repeat' (first | exact trivial | exact fun _ => rfl | exact rfl | refine And.intro ?_ ?_))
  all_goals first | (first | omega | exact u0 (by omega) | exact u1 (by omega) | exact u1 ⟨by omega, by omega⟩ | exact un (by omega) | exact fun hh => hh | exact fun hh => absurd hh (by decide) | exact fun hh => congrArg not hh | exact fun hh => Bool.noConfusion (show true = false from hh) | exact fun hh => Bool.noConfusion (show false = true from hh)) | (show _ * 8 ≤ 140737488355328; omega) | exact fun k hk => rfl | decide | skip
  · refine CodeP.pre (t := ⟨T7l, H7l h y 1 1 1 c1 c2 c3 (fun _ => 0) (fun _ => -1) (fun _ => 7), []⟩) (ent_tau [0, 1, 2, 4, 6, 8, 9] ⟨?_, by (repeat' (first | exact trivial | exact rfl | exact congrArg (SV.int .i64) (Int.natCast_succ _).symm | exact congrArg (SV.int .u64) (Int.natCast_succ _).symm | refine And.intro ?_ ?_)), rfl⟩) (loop7 h hv y 1 1 1 c1 c2 c3 (fun _ => 0) (fun _ => -1) (fun _ => 7) (by decide) (by decide) (by decide) (pok_len (by omega)) (pok_len (by omega)) (pok_len (by omega)) _ fun s2 he => ?_)
    · (repeat' (first | exact trivial | exact rfl | exact fun _ _ => rfl | exact fun _ _ _ _ => rfl | exact Or.inl rfl | exact Or.inr rfl | refine And.intro ?_ ?_))
      all_goals first | exact (fun k hk => by have h0 : k = 0 := Nat.lt_one_iff.1 hk; subst h0; rfl) | (intro k hk; match k, hk with | 0, _ => rfl | 1, _ => rfl | 2, _ => rfl)
    · (repeat' (first | exact trivial | exact fun _ => rfl | exact rfl | refine And.intro ?_ ?_))
      exact CodeP.part (seg7z h hv y) he
  · refine CodeP.pre (t := ⟨T7l, H7l h y 1 1 1 c1 c2 c3 (fun _ => 0) (fun _ => -1) (fun _ => 7), []⟩) (ent_tau [0, 1, 2, 4, 7, 8, 9] ⟨?_, by (repeat' (first | exact trivial | exact rfl | exact congrArg (SV.int .i64) (Int.natCast_succ _).symm | exact congrArg (SV.int .u64) (Int.natCast_succ _).symm | refine And.intro ?_ ?_)), rfl⟩) (loop7 h hv y 1 1 1 c1 c2 c3 (fun _ => 0) (fun _ => -1) (fun _ => 7) (by decide) (by decide) (by decide) (pok_len (by omega)) (pok_len (by omega)) (pok_len (by omega)) _ fun s2 he => ?_)
    · (repeat' (first | exact trivial | exact rfl | exact fun _ _ => rfl | exact fun _ _ _ _ => rfl | exact Or.inl rfl | exact Or.inr rfl | refine And.intro ?_ ?_))
      all_goals first | exact (fun k hk => by have h0 : k = 0 := Nat.lt_one_iff.1 hk; subst h0; rfl) | (intro k hk; match k, hk with | 0, _ => rfl | 1, _ => rfl | 2, _ => rfl)
    · (repeat' (first | exact trivial | exact fun _ => rfl | exact rfl | refine And.intro ?_ ?_))
      exact CodeP.part (seg7z h hv y) he
  · refine CodeP.pre (t := ⟨T7l, H7l h y 1 1 1 c1 c2 c3 (fun _ => 0) (fun _ => -1) (fun _ => 7), []⟩) (ent_tau [0, 1, 2, 4, 7, 8, 9] ⟨?_, by (repeat' (first | exact trivial | exact rfl | exact congrArg (SV.int .i64) (Int.natCast_succ _).symm | exact congrArg (SV.int .u64) (Int.natCast_succ _).symm | refine And.intro ?_ ?_)), rfl⟩) (loop7 h hv y 1 1 1 c1 c2 c3 (fun _ => 0) (fun _ => -1) (fun _ => 7) (by decide) (by decide) (by decide) (pok_len (by omega)) (pok_len (by omega)) (pok_len (by omega)) _ fun s2 he => ?_)
    · (repeat' (first | exact trivial | exact rfl | exact fun _ _ => rfl | exact fun _ _ _ _ => rfl | exact Or.inl rfl | exact Or.inr rfl | refine And.intro ?_ ?_))
      all_goals first | exact (fun k hk => by have h0 : k = 0 := Nat.lt_one_iff.1 hk; subst h0; rfl) | (intro k hk; match k, hk with | 0, _ => rfl | 1, _ => rfl | 2, _ => rfl)
    · (repeat' (first | exact trivial | exact fun _ => rfl | exact rfl | refine And.intro ?_ ?_))
      exact CodeP.part (seg7z h hv y) he
  · refine CodeP.pre (t := ⟨T7l, H7l h y 1 1 1 c1 c2 c3 (fun _ => 0) (fun _ => -1) (fun _ => 7), []⟩) (ent_tau [0, 1, 2, 5, 6, 8, 9] ⟨?_, by (repeat' (first | exact trivial | exact rfl | exact congrArg (SV.int .i64) (Int.natCast_succ _).symm | exact congrArg (SV.int .u64) (Int.natCast_succ _).symm | refine And.intro ?_ ?_)), rfl⟩) (loop7 h hv y 1 1 1 c1 c2 c3 (fun _ => 0) (fun _ => -1) (fun _ => 7) (by decide) (by decide) (by decide) (pok_len (by omega)) (pok_len (by omega)) (pok_len (by omega)) _ fun s2 he => ?_)
    · (repeat' (first | exact trivial | exact rfl | exact fun _ _ => rfl | exact fun _ _ _ _ => rfl | exact Or.inl rfl | exact Or.inr rfl | refine And.intro ?_ ?_))
      all_goals first | exact (fun k hk => by have h0 : k = 0 := Nat.lt_one_iff.1 hk; subst h0; rfl) | (intro k hk; match k, hk with | 0, _ => rfl | 1, _ => rfl | 2, _ => rfl)
    · (repeat' (first | exact trivial | exact fun _ => rfl | exact rfl | refine And.intro ?_ ?_))
      exact CodeP.part (seg7z h hv y) he
  · refine CodeP.pre (t := ⟨T7l, H7l h y 1 1 1 c1 c2 c3 (fun _ => 0) (fun _ => -1) (fun _ => 7), []⟩) (ent_tau [0, 1, 2, 5, 7, 8, 9] ⟨?_, by (repeat' (first | exact trivial | exact rfl | exact congrArg (SV.int .i64) (Int.natCast_succ _).symm | exact congrArg (SV.int .u64) (Int.natCast_succ _).symm | refine And.intro ?_ ?_)), rfl⟩) (loop7 h hv y 1 1 1 c1 c2 c3 (fun _ => 0) (fun _ => -1) (fun _ => 7) (by decide) (by decide) (by decide) (pok_len (by omega)) (pok_len (by omega)) (pok_len (by omega)) _ fun s2 he => ?_)
    · (repeat' (first | exact trivial | exact rfl | exact fun _ _ => rfl | exact fun _ _ _ _ => rfl | exact Or.inl rfl | exact Or.inr rfl | refine And.intro ?_ ?_))
      all_goals first | exact (fun k hk => by have h0 : k = 0 := Nat.lt_one_iff.1 hk; subst h0; rfl) | (intro k hk; match k, hk with | 0, _ => rfl | 1, _ => rfl | 2, _ => rfl)
    · (repeat' (first | exact trivial | exact fun _ => rfl | exact rfl | refine And.intro ?_ ?_))
      exact CodeP.part (seg7z h hv y) he
  · refine CodeP.pre (t := ⟨T7l, H7l h y 1 1 1 c1 c2 c3 (fun _ => 0) (fun _ => -1) (fun _ => 7), []⟩) (ent_tau [0, 1, 2, 6, 7, 8, 9] ⟨?_, by (repeat' (first | exact trivial | exact rfl | exact congrArg (SV.int .i64) (Int.natCast_succ _).symm | exact congrArg (SV.int .u64) (Int.natCast_succ _).symm | refine And.intro ?_ ?_)), rfl⟩) (loop7 h hv y 1 1 1 c1 c2 c3 (fun _ => 0) (fun _ => -1) (fun _ => 7) (by decide) (by decide) (by decide) (pok_len (by omega)) (pok_len (by omega)) (pok_len (by omega)) _ fun s2 he => ?_)
    · (repeat' (first | exact trivial | exact rfl | exact fun _ _ => rfl | exact fun _ _ _ _ => rfl | exact Or.inl rfl | exact Or.inr rfl | refine And.intro ?_ ?_))
      all_goals first | exact (fun k hk => by have h0 : k = 0 := Nat.lt_one_iff.1 hk; subst h0; rfl) | (intro k hk; match k, hk with | 0, _ => rfl | 1, _ => rfl | 2, _ => rfl)
    · (repeat' (first | exact trivial | exact fun _ => rfl | exact rfl | refine And.intro ?_ ?_))
      exact CodeP.part (seg7z h hv y) he
  · refine CodeP.pre (t := ⟨T7l, H7l h y 1 1 1 c1 c2 c3 (fun _ => 0) (fun _ => -1) (fun _ => 7), []⟩) (ent_tau [0, 1, 2, 5, 7, 8, 9] ⟨?_, by (repeat' (first | exact trivial | exact rfl | exact congrArg (SV.int .i64) (Int.natCast_succ _).symm | exact congrArg (SV.int .u64) (Int.natCast_succ _).symm | refine And.intro ?_ ?_)), rfl⟩) (loop7 h hv y 1 1 1 c1 c2 c3 (fun _ => 0) (fun _ => -1) (fun _ => 7) (by decide) (by decide) (by decide) (pok_len (by omega)) (pok_len (by omega)) (pok_len (by omega)) _ fun s2 he => ?_)
    · (repeat' (first | exact trivial | exact rfl | exact fun _ _ => rfl | exact fun _ _ _ _ => rfl | exact Or.inl rfl | exact Or.inr rfl | refine And.intro ?_ ?_))
      all_goals first | exact (fun k hk => by have h0 : k = 0 := Nat.lt_one_iff.1 hk; subst h0; rfl) | (intro k hk; match k, hk with | 0, _ => rfl | 1, _ => rfl | 2, _ => rfl)
    · (repeat' (first | exact trivial | exact fun _ => rfl | exact rfl | refine And.intro ?_ ?_))
      exact CodeP.part (seg7z h hv y) he
  · refine CodeP.pre (t := ⟨T7l, H7l h y 1 1 1 c1 c2 c3 (fun _ => 0) (fun _ => -1) (fun _ => 7), []⟩) (ent_tau [0, 1, 2, 6, 7, 8, 9] ⟨?_, by (repeat' (first | exact trivial | exact rfl | exact congrArg (SV.int .i64) (Int.natCast_succ _).symm | exact congrArg (SV.int .u64) (Int.natCast_succ _).symm | refine And.intro ?_ ?_)), rfl⟩) (loop7 h hv y 1 1 1 c1 c2 c3 (fun _ => 0) (fun _ => -1) (fun _ => 7) (by decide) (by decide) (by decide) (pok_len (by omega)) (pok_len (by omega)) (pok_len (by omega)) _ fun s2 he => ?_)
    · (repeat' (first | exact trivial | exact rfl | exact fun _ _ => rfl | exact fun _ _ _ _ => rfl | exact Or.inl rfl | exact Or.inr rfl | refine And.intro ?_ ?_))
      all_goals first | exact (fun k hk => by have h0 : k = 0 := Nat.lt_one_iff.1 hk; subst h0; rfl) | (intro k hk; match k, hk with | 0, _ => rfl | 1, _ => rfl | 2, _ => rfl)
    · (repeat' (first | exact trivial | exact fun _ => rfl | exact rfl | refine And.intro ?_ ?_))
      exact CodeP.part (seg7z h hv y) he
  · refine CodeP.pre (t := ⟨T7l, H7l h y 1 1 1 c1 c2 c3 (fun _ => 0) (fun _ => -1) (fun _ => 7), []⟩) (ent_tau [0, 1, 2, 5, 6, 8, 9] ⟨?_, by (repeat' (first | exact trivial | exact rfl | exact congrArg (SV.int .i64) (Int.natCast_succ _).symm | exact congrArg (SV.int .u64) (Int.natCast_succ _).symm | refine And.intro ?_ ?_)), rfl⟩) (loop7 h hv y 1 1 1 c1 c2 c3 (fun _ => 0) (fun _ => -1) (fun _ => 7) (by decide) (by decide) (by decide) (pok_len (by omega)) (pok_len (by omega)) (pok_len (by omega)) _ fun s2 he => ?_)
    · (repeat' (first | exact trivial | exact rfl | exact fun _ _ => rfl | exact fun _ _ _ _ => rfl | exact Or.inl rfl | exact Or.inr rfl | refine And.intro ?_ ?_))
      all_goals first | exact (fun k hk => by have h0 : k = 0 := Nat.lt_one_iff.1 hk; subst h0; rfl) | (intro k hk; match k, hk with | 0, _ => rfl | 1, _ => rfl | 2, _ => rfl)
    · (repeat' (first | exact trivial | exact fun _ => rfl | exact rfl | refine And.intro ?_ ?_))
      exact CodeP.part (seg7z h hv y) he
  · refine CodeP.pre (t := ⟨T7l, H7l h y 1 1 1 c1 c2 c3 (fun _ => 0) (fun _ => -1) (fun _ => 7), []⟩) (ent_tau [0, 1, 2, 5, 7, 8, 9] ⟨?_, by (repeat' (first | exact trivial | exact rfl | exact congrArg (SV.int .i64) (Int.natCast_succ _).symm | exact congrArg (SV.int .u64) (Int.natCast_succ _).symm | refine And.intro ?_ ?_)), rfl⟩) (loop7 h hv y 1 1 1 c1 c2 c3 (fun _ => 0) (fun _ => -1) (fun _ => 7) (by decide) (by decide) (by decide) (pok_len (by omega)) (pok_len (by omega)) (pok_len (by omega)) _ fun s2 he => ?_)
    · (repeat' (first | exact trivial | exact rfl | exact fun _ _ => rfl | exact fun _ _ _ _ => rfl | exact Or.inl rfl | exact Or.inr rfl | refine And.intro ?_ ?_))
      all_goals first | exact (fun k hk => by have h0 : k = 0 := Nat.lt_one_iff.1 hk; subst h0; rfl) | (intro k hk; match k, hk with | 0, _ => rfl | 1, _ => rfl | 2, _ => rfl)
    · (repeat' (first | exact trivial | exact fun _ => rfl | exact rfl | refine And.intro ?_ ?_))
      exact CodeP.part (seg7z h hv y) he
  · refine CodeP.pre (t := ⟨T7l, H7l h y 1 1 1 c1 c2 c3 (fun _ => 0) (fun _ => -1) (fun _ => 7), []⟩) (ent_tau [0, 1, 2, 6, 7, 8, 9] ⟨?_, by (repeat' (first | exact trivial | exact rfl | exact congrArg (SV.int .i64) (Int.natCast_succ _).symm | exact congrArg (SV.int .u64) (Int.natCast_succ _).symm | refine And.intro ?_ ?_)), rfl⟩) (loop7 h hv y 1 1 1 c1 c2 c3 (fun _ => 0) (fun _ => -1) (fun _ => 7) (by decide) (by decide) (by decide) (pok_len (by omega)) (pok_len (by omega)) (pok_len (by omega)) _ fun s2 he => ?_)
    · (repeat' (first | exact trivial | exact rfl | exact fun _ _ => rfl | exact fun _ _ _ _ => rfl | exact Or.inl rfl | exact Or.inr rfl | refine And.intro ?_ ?_))
      all_goals first | exact (fun k hk => by have h0 : k = 0 := Nat.lt_one_iff.1 hk; subst h0; rfl) | (intro k hk; match k, hk with | 0, _ => rfl | 1, _ => rfl | 2, _ => rfl)
    · (repeat' (first | exact trivial | exact fun _ => rfl | exact rfl | refine And.intro ?_ ?_))
      exact CodeP.part (seg7z h hv y) he
  · refine CodeP.pre (t := ⟨T7l, H7l h y 1 1 1 c1 c2 c3 (fun _ => 0) (fun _ => -1) (fun _ => 7), []⟩) (ent_tau [0, 1, 2, 6, 7, 8, 9] ⟨?_, by (repeat' (first | exact trivial | exact rfl | exact congrArg (SV.int .i64) (Int.natCast_succ _).symm | exact congrArg (SV.int .u64) (Int.natCast_succ _).symm | refine And.intro ?_ ?_)), rfl⟩) (loop7 h hv y 1 1 1 c1 c2 c3 (fun _ => 0) (fun _ => -1) (fun _ => 7) (by decide) (by decide) (by decide) (pok_len (by omega)) (pok_len (by omega)) (pok_len (by omega)) _ fun s2 he => ?_)
    · (repeat' (first | exact trivial | exact rfl | exact fun _ _ => rfl | exact fun _ _ _ _ => rfl | exact Or.inl rfl | exact Or.inr rfl | refine And.intro ?_ ?_))
      all_goals first | exact (fun k hk => by have h0 : k = 0 := Nat.lt_one_iff.1 hk; subst h0; rfl) | (intro k hk; match k, hk with | 0, _ => rfl | 1, _ => rfl | 2, _ => rfl)
    · (repeat' (first | exact trivial | exact fun _ => rfl | exact rfl | refine And.intro ?_ ?_))
      exact CodeP.part (seg7z h hv y) he
  · refine CodeP.pre (t := ⟨T7l, H7l h y 1 1 1 c1 c2 c3 (fun _ => 0) (fun _ => -1) (fun _ => 7), []⟩) (ent_tau [0, 1, 2, 5, 7, 8, 9] ⟨?_, by (repeat' (first | exact trivial | exact rfl | exact congrArg (SV.int .i64) (Int.natCast_succ _).symm | exact congrArg (SV.int .u64) (Int.natCast_succ _).symm | refine And.intro ?_ ?_)), rfl⟩) (loop7 h hv y 1 1 1 c1 c2 c3 (fun _ => 0) (fun _ => -1) (fun _ => 7) (by decide) (by decide) (by decide) (pok_len (by omega)) (pok_len (by omega)) (pok_len (by omega)) _ fun s2 he => ?_)
    · (repeat' (first | exact trivial | exact rfl | exact fun _ _ => rfl | exact fun _ _ _ _ => rfl | exact Or.inl rfl | exact Or.inr rfl | refine And.intro ?_ ?_))
      all_goals first | exact (fun k hk => by have h0 : k = 0 := Nat.lt_one_iff.1 hk; subst h0; rfl) | (intro k hk; match k, hk with | 0, _ => rfl | 1, _ => rfl | 2, _ => rfl)
    · (repeat' (first | exact trivial | exact fun _ => rfl | exact rfl | refine And.intro ?_ ?_))
      exact CodeP.part (seg7z h hv y) he
  · refine CodeP.pre (t := ⟨T7l, H7l h y 1 1 1 c1 c2 c3 (fun _ => 0) (fun _ => -1) (fun _ => 7), []⟩) (ent_tau [0, 1, 2, 6, 7, 8, 9] ⟨?_, by (repeat' (first | exact trivial | exact rfl | exact congrArg (SV.int .i64) (Int.natCast_succ _).symm | exact congrArg (SV.int .u64) (Int.natCast_succ _).symm | refine And.intro ?_ ?_)), rfl⟩) (loop7 h hv y 1 1 1 c1 c2 c3 (fun _ => 0) (fun _ => -1) (fun _ => 7) (by decide) (by decide) (by decide) (pok_len (by omega)) (pok_len (by omega)) (pok_len (by omega)) _ fun s2 he => ?_)
    · (repeat' (first | exact trivial | exact rfl | exact fun _ _ => rfl | exact fun _ _ _ _ => rfl | exact Or.inl rfl | exact Or.inr rfl | refine And.intro ?_ ?_))
      all_goals first | exact (fun k hk => by have h0 : k = 0 := Nat.lt_one_iff.1 hk; subst h0; rfl) | (intro k hk; match k, hk with | 0, _ => rfl | 1, _ => rfl | 2, _ => rfl)
    · (repeat' (first | exact trivial | exact fun _ => rfl | exact rfl | refine And.intro ?_ ?_))
      exact CodeP.part (seg7z h hv y) he
  · refine CodeP.pre (t := ⟨T7l, H7l h y 1 1 1 c1 c2 c3 (fun _ => 0) (fun _ => -1) (fun _ => 7), []⟩) (ent_tau [0, 1, 2, 6, 7, 8, 9] ⟨?_, by (repeat' (first | exact trivial | exact rfl | exact congrArg (SV.int .i64) (Int.natCast_succ _).symm | exact congrArg (SV.int .u64) (Int.natCast_succ _).symm | refine And.intro ?_ ?_)), rfl⟩) (loop7 h hv y 1 1 1 c1 c2 c3 (fun _ => 0) (fun _ => -1) (fun _ => 7) (by decide) (by decide) (by decide) (pok_len (by omega)) (pok_len (by omega)) (pok_len (by omega)) _ fun s2 he => ?_)
    · (repeat' (first | exact trivial | exact rfl | exact fun _ _ => rfl | exact fun _ _ _ _ => rfl | exact Or.inl rfl | exact Or.inr rfl | refine And.intro ?_ ?_))
      all_goals first | exact (fun k hk => by have h0 : k = 0 := Nat.lt_one_iff.1 hk; subst h0; rfl) | (intro k hk; match k, hk with | 0, _ => rfl | 1, _ => rfl | 2, _ => rfl)
    · (repeat' (first | exact trivial | exact fun _ => rfl | exact rfl | refine And.intro ?_ ?_))
      exact CodeP.part (seg7z h hv y) he
end Go.Proofs.Ytgofhjihkinknaa
/-
  HorseEnds: the loops over moves.
-/
namespace Go.Proofs.Ytgofhjihkinknaa
open Go Go.Sy Kuhn
set_option linter.unusedSimpArgs false
set_option maxRecDepth 100000
set_option maxHeartbeats 4000000
attribute [local irreducible] CallP CodeP Ent YieldP
set_option maxHeartbeats 40000000
attribute [local irreducible] HD.ch maskO

noncomputable def T7y (p : PD) : Tm := mkT [] [(3, .ptr 2 0), (6, .bool false), (11, .osl p.b 3 1 p.n p.cap)] 0 (List.replicate 320 none)
def H7y (h : HD) (y p : PD) : SHeap := H7z h y ++ [some (.roa 1 p.n (PD.F p))]
def H7w (h : HD) (y p : PD) : SHeap := H7y h y p ++ [some (.roa 1 h.n fun k => [.int .i64 (T59 h p false k)]), some (.roa 1 h.n fun k => [.int .i64 (T59 h p true k)]), some (.roa 2 h.n (latF h p))]
noncomputable def T7w (h : HD) (p : PD) : Tm := mkT [] [(3, .ptr 2 0), (6, .bool false), (11, .osl p.b 3 1 p.n p.cap), (18, .slice 4 1 0 h.n h.n), (19, .slice 5 1 0 h.n h.n), (20, .slice 6 2 0 h.n h.n)] 0 (List.replicate 320 none)
theorem seg7w (h : HD) (hv : h.Valid) (y p : PD) (hpl : pok h p = true)
    (seg : CodeP Try.prog none 2 (sufC Try.f7 13) ⟨T7y p, H7y h y p, []⟩ (KRet E Try.f7 2 (.bool true) (H7 h y))) :
    CodeP Try.prog none 2 (sufC Try.f7 12) ⟨T7w h p, H7w h y p, []⟩ (KRet E Try.f7 2 (.bool true) (H7 h y)) := by
  have hn := hv.2.1
  refine codeP_XK E_ok 1 ?_
  (repeat' (first | exact trivial | exact fun _ => rfl | exact rfl | refine And.intro ?_ ?_))
  refine loopP E_ok [3, 6, 11, 18, 19, 20, 173, 174] (fun i : Nat => [(175, .int .i64 i)]) (fun _ _ => H7w h y p) (fun i => i ≤ h.n) (fun i => h.n - i) 0 (Nat.zero_le _) ?_ ?_
  · exact ent_tau [0, 1, 2, 3, 4, 5, 6] ⟨by (repeat' (first | exact trivial | exact rfl | exact fun _ _ => rfl | exact fun _ _ _ _ => rfl | exact Or.inl rfl | exact Or.inr rfl | refine And.intro ?_ ?_)), by (repeat' (first | exact trivial | exact rfl | exact congrArg (SV.int .i64) (Int.natCast_succ _).symm | exact congrArg (SV.int .u64) (Int.natCast_succ _).symm | refine And.intro ?_ ?_)), rfl⟩
  rintro i hi
  refine And.intro ?_ (And.intro (fun hlt => ?_) (fun hlt => ?_))
  · (repeat' (first | exact trivial | exact fun _ => rfl | exact rfl | refine And.intro ?_ ?_))
  · have hlt' : i < h.n := by
      have := of_decide_eq_true hlt
      omega
    have ei := z1 i
    have mi := hv.2.2 i hlt'
    unfold HD.okMv at mi
    have t1 := TL_all hv (pl := p) (lg := h.takes false) (fun j hj => by have := hv.2.2 j hj; unfold HD.okMv at this; simp only [HD.takes]; omega) hlt'
    have t2 := TL_all hv (pl := p) (lg := h.takes true) (fun j hj => by have := hv.2.2 j hj; unfold HD.okMv at this; simp only [HD.takes]; omega) hlt'
    rw [← T59_TL] at t1 t2
    (repeat' (first | exact trivial | exact fun _ => rfl | exact rfl | refine And.intro ?_ ?_))
    all_goals first | (first | omega | exact u0 (by omega) | exact u1 (by omega) | exact u1 ⟨by omega, by omega⟩ | exact un (by omega) | exact fun hh => hh | exact fun hh => absurd hh (by decide) | exact fun hh => congrArg not hh | exact fun hh => Bool.noConfusion (show true = false from hh) | exact fun hh => Bool.noConfusion (show false = true from hh)) | exact u0 (by omega) | skip
    refine drawP E_ok [7] pl7_28 (by kernel_rfl) ?_
    (repeat' (first | exact trivial | exact fun _ => rfl | exact rfl | refine And.intro ?_ ?_))
    all_goals first | (first | omega | exact u0 (by omega) | exact u1 (by omega) | exact u1 ⟨by omega, by omega⟩ | exact un (by omega) | exact fun hh => hh | exact fun hh => absurd hh (by decide) | exact fun hh => congrArg not hh | exact fun hh => Bool.noConfusion (show true = false from hh) | exact fun hh => Bool.noConfusion (show false = true from hh)) | exact u0 (by omega) | (rw [ei]; omega) | skip
    refine (t38 _ _).use [] ?_ trivial rfl
    (repeat' (first | exact trivial | exact fun _ => rfl | exact rfl | refine And.intro ?_ ?_))
    all_goals first | (first | omega | exact u0 (by omega) | exact u1 (by omega) | exact u1 ⟨by omega, by omega⟩ | exact un (by omega) | exact fun hh => hh | exact fun hh => absurd hh (by decide) | exact fun hh => congrArg not hh | exact fun hh => Bool.noConfusion (show true = false from hh) | exact fun hh => Bool.noConfusion (show false = true from hh)) | exact u0 (by omega) | (rw [ei]; omega) | skip
    · intro hx
      exfalso
      revert hx
      simp [latF]
    intro hx
    clear hx
    (repeat' (first | exact trivial | exact fun _ => rfl | exact rfl | refine And.intro ?_ ?_))
    all_goals first | (first | omega | exact u0 (by omega) | exact u1 (by omega) | exact u1 ⟨by omega, by omega⟩ | exact un (by omega) | exact fun hh => hh | exact fun hh => absurd hh (by decide) | exact fun hh => congrArg not hh | exact fun hh => Bool.noConfusion (show true = false from hh) | exact fun hh => Bool.noConfusion (show false = true from hh)) | exact u0 (by omega) | (rw [ei]; omega) | skip
    refine loopP E_ok [3, 6, 11, 18, 19, 20, 24, 25, 173, 174, 175, 201, 202] (fun k : Nat => [(203, .int .i64 k)]) (fun _ _ => H7w h y p ++ [some (.roc (HD.F h (0 + ((i : Nat) : Int).toNat)))]) (fun k => k ≤ h.n) (fun k => h.n - k) 0 (Nat.zero_le _) ?_ ?_
    · exact ent_tau [0, 1, 2, 3, 4, 5, 6, 7] ⟨by (repeat' (first | exact trivial | exact rfl | exact fun _ _ => rfl | exact fun _ _ _ _ => rfl | exact Or.inl rfl | exact Or.inr rfl | refine And.intro ?_ ?_)), by (repeat' (first | exact trivial | exact rfl | exact congrArg (SV.int .i64) (Int.natCast_succ _).symm | exact congrArg (SV.int .u64) (Int.natCast_succ _).symm | refine And.intro ?_ ?_)), rfl⟩
    rintro k hk
    refine And.intro ?_ (And.intro (fun hlk => ?_) (fun hlk => ?_))
    · (repeat' (first | exact trivial | exact fun _ => rfl | exact rfl | refine And.intro ?_ ?_))
    · have hlk' : k < h.n := by
        have := of_decide_eq_true hlk
        omega
      have ek := z1 k
      have mk := hv.2.2 k hlk'
      unfold HD.okMv at mk
      have w0 := HD.walk_nonneg hv i k
      have w1 := HD.walk_le hv hlt' hlk'
      have c36 := t36 h hv i k hlt' hlk'
      have ci := t16i h hv i k hlt' hlk'
      have d1 : (fv h i k = 2) = (h.at' i + h.hi i + h.pace * h.dist i k ≤ h.at' k) := by
        have := HD.can_iff (h := h) (s := true) (i := i) (k := k)
        unfold fv
        simp only [HD.takes] at this
        by_cases c : h.can true i k = true
        · rw [if_pos c]
          exact propext ⟨fun _ => this.1 c, fun _ => rfl⟩
        · rw [if_neg c]
          refine propext ⟨fun e => ?_, fun e => absurd (this.2 e) c⟩
          split at e <;> omega
      have d2 : (fv h i k = 0) = (h.at' i + h.lo i + h.pace * h.dist i k > h.at' k) := by
        have := HD.can_iff (h := h) (s := false) (i := i) (k := k)
        unfold fv
        simp only [HD.takes] at this
        by_cases c : h.can false i k = true
        · have q := this.1 c
          refine propext ⟨fun e => ?_, fun e => by omega⟩
          rw [if_pos c] at e
          split at e <;> omega
        · have c2 : ¬ h.can true i k = true := fun q => c (HD.can_sure hv hlt' q)
          rw [if_neg c2, if_neg c]
          refine propext ⟨fun _ => ?_, fun _ => rfl⟩
          have : ¬ _ := fun q => c (this.2 q)
          omega
      obtain ⟨n1, en⟩ : ∃ n, fv h i k = n := ⟨_, rfl⟩
      rw [en] at ci d1 d2
      (repeat' (first | exact trivial | exact fun _ => rfl | exact rfl | refine And.intro ?_ ?_))
      all_goals first | (first | omega | exact u0 (by omega) | exact u1 (by omega) | exact u1 ⟨by omega, by omega⟩ | exact un (by omega) | exact fun hh => hh | exact fun hh => absurd hh (by decide) | exact fun hh => congrArg not hh | exact fun hh => Bool.noConfusion (show true = false from hh) | exact fun hh => Bool.noConfusion (show false = true from hh)) | exact u0 (by omega) | (rw [ek]; omega) | skip
      refine ci.use [0] ?_ (by (repeat' (first | exact trivial | exact rfl | exact fun _ _ => rfl | exact fun _ _ _ _ => rfl | exact Or.inl rfl | exact Or.inr rfl | refine And.intro ?_ ?_))) rfl
      (repeat' (first | exact trivial | exact fun _ => rfl | exact rfl | refine And.intro ?_ ?_))
      all_goals first | (first | omega | exact u0 (by omega) | exact u1 (by omega) | exact u1 ⟨by omega, by omega⟩ | exact un (by omega) | exact fun hh => hh | exact fun hh => absurd hh (by decide) | exact fun hh => congrArg not hh | exact fun hh => Bool.noConfusion (show true = false from hh) | exact fun hh => Bool.noConfusion (show false = true from hh)) | exact u0 (by omega) | skip
      have hA : InR .i64 (h.at' (0 + ((i : Nat) : Int).toNat) + h.hi (0 + ((i : Nat) : Int).toNat)) := by
        rw [ei]
        exact ⟨by omega, by omega⟩
      have hB : InR .i64 (h.at' (0 + ((i : Nat) : Int).toNat) + h.lo (0 + ((i : Nat) : Int).toNat)) := by
        rw [ei]
        exact ⟨by omega, by omega⟩
      have hC : InR .i64 (h.at' (0 + ((i : Nat) : Int).toNat) + h.hi (0 + ((i : Nat) : Int).toNat) + h.pace * h.dist i k) := by
        rw [ei]
        exact ⟨by omega, by omega⟩
      have hD : InR .i64 (h.at' (0 + ((i : Nat) : Int).toNat) + h.lo (0 + ((i : Nat) : Int).toNat) + h.pace * h.dist i k) := by
        rw [ei]
        exact ⟨by omega, by omega⟩
      refine drawP E_ok [8] pl7_34 (by kernel_rfl) ?_
      (repeat' (first | exact trivial | exact fun _ => rfl | exact rfl | refine And.intro ?_ ?_))
      all_goals first | (show under _ _; exact fun _ => hA) | skip
      all_goals (repeat' (first | exact trivial | exact fun _ => rfl | exact rfl | refine And.intro ?_ ?_))
      all_goals first | exact True.intro | omega | exact u1 (lt64 (by omega)) | exact u0 (lt64 (by omega)) | (show under _ _; simp [under, gB, wB]; done) | (show under _ _; simp [under, gB, wB]; omega) | skip
      all_goals intro g1
      all_goals first | (exfalso; revert g1; simp [gB, wB]; done) | skip
      refine c36.use [0] ?_ (by (repeat' (first | exact trivial | exact rfl | exact fun _ _ => rfl | exact fun _ _ _ _ => rfl | exact Or.inl rfl | exact Or.inr rfl | refine And.intro ?_ ?_))) rfl
      (repeat' (first | exact trivial | exact fun _ => rfl | exact rfl | refine And.intro ?_ ?_))
      all_goals first | (show under _ _; first | exact fun _ => hB | exact fun _ => hC) | skip
      all_goals first | exact True.intro | omega | exact u1 (lt64 (by omega)) | exact u0 (lt64 (by omega)) | (show under _ _; simp [under, gB, wB]; done) | (show under _ _; simp [under, gB, wB]; omega) | skip
      all_goals (repeat' (first | exact trivial | exact fun _ => rfl | exact rfl | refine And.intro ?_ ?_))
      all_goals first | exact True.intro | omega | exact u1 (lt64 (by omega)) | exact u0 (lt64 (by omega)) | (show under _ _; simp [under, gB, wB]; done) | (show under _ _; simp [under, gB, wB]; omega) | skip
      all_goals intro g2
      all_goals first | (exfalso; revert g2; simp [gB, wB, ei, ek, d1]; done) | skip
      refine c36.use [0] ?_ (by (repeat' (first | exact trivial | exact rfl | exact fun _ _ => rfl | exact fun _ _ _ _ => rfl | exact Or.inl rfl | exact Or.inr rfl | refine And.intro ?_ ?_))) rfl
      (repeat' (first | exact trivial | exact fun _ => rfl | exact rfl | refine And.intro ?_ ?_))
      all_goals first | (show under _ _; first | exact fun _ => hD | exact fun _ => hC) | skip
      all_goals (repeat' (first | exact trivial | exact fun _ => rfl | exact rfl | refine And.intro ?_ ?_))
      all_goals first | exact True.intro | omega | exact u1 (lt64 (by omega)) | exact u0 (lt64 (by omega)) | (show under _ _; simp [under, gB, wB]; done) | (show under _ _; simp [under, gB, wB]; omega) | skip
      all_goals intro g3
      all_goals first | (exfalso; revert g3; simp [gB, wB, ei, ek, d1, d2]; done) | skip
      (repeat' (first | exact trivial | exact fun _ => rfl | exact rfl | refine And.intro ?_ ?_))
      all_goals first | exact True.intro | omega | exact u1 (lt64 (by omega)) | exact u0 (lt64 (by omega)) | (show under _ _; simp [under, gB, wB]; done) | (show under _ _; simp [under, gB, wB]; omega) | skip
      refine ⟨k + 1, hlk', by omega, ?_⟩
      exact ent_tau [0, 1, 2, 3, 4, 5, 6, 7] ⟨by (repeat' (first | exact trivial | exact rfl | exact fun _ _ => rfl | exact fun _ _ _ _ => rfl | exact Or.inl rfl | exact Or.inr rfl | refine And.intro ?_ ?_)), by (repeat' (first | exact trivial | exact rfl | exact congrArg (SV.int .i64) (Int.natCast_succ _).symm | exact congrArg (SV.int .u64) (Int.natCast_succ _).symm | refine And.intro ?_ ?_)), rfl⟩
    · have e : k = h.n := by
        have := of_decide_eq_false hlk
        omega
      subst e
      (repeat' (first | exact trivial | exact fun _ => rfl | exact rfl | refine And.intro ?_ ?_))
      all_goals first | exact True.intro | omega | exact u1 (lt64 (by omega)) | exact u0 (lt64 (by omega)) | (show under _ _; simp [under, gB, wB]; done) | (show under _ _; simp [under, gB, wB]; omega) | skip
      refine ⟨i + 1, hlt', by omega, ?_⟩
      exact ent_tau [0, 1, 2, 3, 4, 5, 6] ⟨by (repeat' (first | exact trivial | exact rfl | exact fun _ _ => rfl | exact fun _ _ _ _ => rfl | exact Or.inl rfl | exact Or.inr rfl | refine And.intro ?_ ?_)), by (repeat' (first | exact trivial | exact rfl | exact congrArg (SV.int .i64) (Int.natCast_succ _).symm | exact congrArg (SV.int .u64) (Int.natCast_succ _).symm | refine And.intro ?_ ?_)), rfl⟩
  · have e : i = h.n := by
      have := of_decide_eq_false hlt
      omega
    subst e
    (repeat' (first | exact trivial | exact fun _ => rfl | exact rfl | refine And.intro ?_ ?_))
    refine CodeP.part seg ?_
    exact ent_tau [0, 1, 2, 3] ⟨by (repeat' (first | exact trivial | exact rfl | exact fun _ _ => rfl | exact fun _ _ _ _ => rfl | exact Or.inl rfl | exact Or.inr rfl | refine And.intro ?_ ?_)), by (repeat' (first | exact trivial | exact rfl | exact congrArg (SV.int .i64) (Int.natCast_succ _).symm | exact congrArg (SV.int .u64) (Int.natCast_succ _).symm | refine And.intro ?_ ?_)), rfl⟩
end Go.Proofs.Ytgofhjihkinknaa
