/-
  New.
-/
import Derived.Test.YtehmegnmfpfopaaWalkD
import Derived.WalkKit
import Derived.Deep.DeepMust
import Derived.WalkSpells
import Derived.WalkLawsBesides
import Derived.Handy
import Derived.Lib.Hide
import Derived.Deep.QuietTactic
import Derived.BigQuiet
namespace Go.Proofs.Ytehmegnmfpfopaa
open Go.RowKit

theorem new_no (x y : Int) (hx : ¬ (1 ≤ x ∧ x ≤ 256 ∧ 1 ≤ y ∧ y ≤ 16)) (w : World) : Calls Try.prog 7 #[.int .i64 x, .int .i64 y] w fun e w' => e = .returned (.tuple #[.pointer none, .int .i64 2]) ∧ w' = w := by
  rcases (by omega : x < 1 ∨ (¬ x < 1 ∧ 256 < x) ∨ (¬ x < 1 ∧ ¬ 256 < x ∧ y < 1) ∨ (¬ x < 1 ∧ ¬ 256 < x ∧ ¬ y < 1 ∧ 16 < y)) with h1 | ⟨h1, h2⟩ | ⟨h1, h2, h3⟩ | ⟨h1, h2, h3, h4⟩ <;>
    (go_enter Try.func7, Try.ntmps7; go_wp2; go_ret2; exact ⟨rfl, rfl⟩)
theorem new_ok (S O : Nat) (h1 : 1 ≤ S) (h2 : S ≤ 256) (h3 : 1 ≤ O) (h4 : O ≤ 16) (w : World) : Calls Try.prog 7 #[.int .i64 (S : Int), .int .i64 (O : Int)] w fun e w' =>
    ∃ b m, e = .returned (.tuple #[.pointer (some ⟨b, 0, none⟩), .int .i64 0]) ∧ w.heap.size ≤ b ∧ w.heap.size ≤ m ∧ OwnAt w' b m S O 0 (fun _ _ => 0) ∧ Below w.heap.size w w' := by
  have hmm := @run_makeMap Try.prog
  have a1 : ¬ (S : Int) < 1 := by omega
  have a2 : ¬ (256 : Int) < (S : Int) := by omega
  have a3 : ¬ (O : Int) < 1 := by omega
  have a4 : ¬ (16 : Int) < (O : Int) := by omega
  go_enter Try.func7, Try.ntmps7
  go_wp2
  go_ret2
  refine ⟨w.heap.size + 1, rfl, by omega, w.heap.size, by omega, ⟨Blk.new2 w _ _ _, (MapF.new w).alloc _, h1, h2, h3, h4, fun x y h => absurd rfl h⟩, ((Below.refl _ _).alloc (Nat.le_refl _) _).alloc (by simp) _⟩

end Go.Proofs.Ytehmegnmfpfopaa
