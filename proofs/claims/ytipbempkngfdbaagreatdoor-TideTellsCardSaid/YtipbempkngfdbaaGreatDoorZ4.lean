/-
  Plain: the sums of powers that Places makes.
-/
import Derived.Test.YtipbempkngfdbaaGreatDoorK26
namespace Go.Proofs.YtipbempkngfdbaaGreatDoor
open Go Go.Sy
set_option maxRecDepth 100000

theorem bits_add_dec : ∀ n, n < 4 → ∀ a b c d : Bool, bitsF (bs4 a b c d) (n + 1) = bitsF (bs4 a b c d) n + if bs4 a b c d n = true then 2 ^ n else 0 := by decide +kernel
theorem bits_add (f : Nat → Bool) {n : Nat} (hn : n < 4) : bitsF f (n + 1) = bitsF f n + if f n = true then 2 ^ n else 0 := by
  have e1 : bitsF f (n + 1) = bitsF (bs4 (f 0) (f 1) (f 2) (f 3)) (n + 1) := bitsF_congr fun j hj => bs4_eq f j (by omega)
  have e2 : bitsF f n = bitsF (bs4 (f 0) (f 1) (f 2) (f 3)) n := bitsF_congr fun j hj => bs4_eq f j (by omega)
  rw [e1, e2, bs4_eq f n hn]
  exact bits_add_dec n hn _ _ _ _
theorem num_cnt (t : TD) (m : Int) (p : Nat) (l h : Int) : cntN (fun i => inB (t.dep m p (t.tru.getD i noTru)) l h) t.tru.length = t.num m p l h :=
  cntN_filter (fun x => inB (t.dep m p x) l h) t.tru
end Go.Proofs.YtipbempkngfdbaaGreatDoor
