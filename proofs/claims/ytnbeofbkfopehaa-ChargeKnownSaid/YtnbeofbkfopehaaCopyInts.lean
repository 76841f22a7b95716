/-
  The walk of CopyInts: a list of numbers in memory of its own.
-/
import Derived.Test.YtnbeofbkfopehaaRows
import Derived.Test.YtnbeofbkfopehaaOpenRow
import Derived.Test.YtnbeofbkfopehaaEqInts
import Derived.OwnWalk
import Derived.WalkKit
import Derived.Deep.DeepMust
import Derived.WalkSpells
import Derived.WalkLawsBesides
import Derived.Handy
import Derived.Lib.Hide
import Derived.Deep.QuietTactic
import Derived.BigQuiet
namespace Go.Proofs.Ytnbeofbkfopehaa
open Go.RowKit

theorem Try.infoInt : (Try.prog.info? 3).map (fun i => (i.zero, i.size, i.bytes)) = some (some (.int .i64 0), 1, 8) := by kernel_rfl

/-- Behind an append to a row of the call's own. -/
theorem below_grown {B : Nat} {a w w' : World} {row : Option Nat} (h : Below B a w) (hg : w.grownBy w' row) (hB : B ≤ w.heap.size) (hr : ∀ g, row = some g → B ≤ g) : Below B a w' :=
  h.trans ⟨hg.os, hg.tape, hg.output, hg.size, fun k hk => hg.block k (by omega) (fun e => by have := hr k e.symm; omega)⟩

theorem copyInts_any (xs : List Value) (hone : ∀ u ∈ xs, u.oneCell' = true) (A : Option Addr) (n c : Nat) (w : World) (hn : xs.length = n) (hl : n * 8 ≤ 140737488355328) (hA : Row w A xs) :
    Calls Try.prog 26 #[.slice A n c] w fun e w' => ∃ v, e = .returned v ∧ w'.ownsRow w.heap.size 3 1 v n xs ∧ Below w.heap.size w w' := by
  obtain ⟨i0, hi, hz0, hz1, hz2⟩ := info_parts Try.infoInt
  have I0 := Lib.hid hi
  have I1 := Lib.hid hz0
  have I2 := Lib.hid hz1
  have I3 := Lib.hid hz2
  have HR := Lib.hid (hA.reads hn)
  clear hi hz0 hz1 hz2
  go_enter Try.func26, Try.ntmps26
  go_wp2_with (first | (at_builtin; refine wpList_append_any _ rfl _ _ 27 rfl w.heap.size 3 i0 (.int .i64 0) 1 8 Try.underlying27 I0.out I1.out I2.out I3.out rfl (by decide) _ _ _ rfl (World.ownsRow_nil _ _ _ _) w.heap.size _ n _ xs rfl HR.out hone (by unfold maxLen; omega) (by omega) (Nat.le_refl _) ?_; intro v1 w1 ho1 hg1 hq1; clear hq1; have hb1 := below_grown (Below.refl w.heap.size w) hg1 (Nat.le_refl _) (fun g hg => by cases hg); simp only [Nat.zero_add, List.nil_append] at ho1))
  go_ret
  exact ⟨_, rfl, ho1, hb1⟩

end Go.Proofs.Ytnbeofbkfopehaa
