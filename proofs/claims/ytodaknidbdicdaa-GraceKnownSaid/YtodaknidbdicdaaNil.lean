/-
  Machines that are none.
-/
import Derived.Test.YtodaknidbdicdaaWalkA
import Derived.WalkKit
import Derived.Deep.DeepMust
import Derived.WalkSpells
import Derived.WalkLawsBesides
import Derived.Handy
import Derived.Lib.Hide
import Derived.Deep.QuietTactic
import Derived.BigQuiet
namespace Go.Proofs.Ytodaknidbdicdaa
open Go.RowKit

/-- No machine, or one of no processor. -/
def IsNone (w : World) (v : Value) : Prop := v = .pointer none ∨ ∃ q, v = .pointer (some ⟨q, 0, none⟩) ∧ Blk w q 57 #[.int .i64 0, .int .i64 0, .int .i64 0, .int .i64 0, .int .i64 0, .int .i64 0, .int .i64 0, .int .i64 0, .int .i64 0, .nilIface, .nilIface, .nilIface, .nilIface, .nilIface, .nilIface, .nilIface, .nilIface, .int .i64 0, .bool false, .bool false, .bool false, .bool false, .bool false, .bool false, .bool false, .bool false, .bool false]
theorem IsNone.below {w w' : World} {v : Value} (h : IsNone w v) (hb : Below w.heap.size w w') : IsNone w' v := by
  rcases h with h | ⟨q, h1, h2⟩
  · exact .inl h
  · exact .inr ⟨q, h1, h2.below hb⟩
theorem asked_none (w : World) (v : Value) (h : IsNone w v) (x : Int) : Calls Try.prog 28 #[v, .int .i64 x] w fun e w' => e = .returned (.int .i64 1) ∧ w' = w := by
  rcases h with rfl | ⟨q, rfl, hb⟩
  · go_enter Try.func28, Try.ntmps28
    go_wp2
    go_ret
    exact ⟨rfl, rfl⟩
  · have c0 := hb.cell 0
    go_enter Try.func28, Try.ntmps28
    go_wp2
    go_ret
    exact ⟨rfl, rfl⟩
theorem lock_none (w : World) (v : Value) (h : IsNone w v) (x : Int) : Calls Try.prog 15 #[v, .int .i64 x] w fun e w' => e = .returned (.int .i64 1) ∧ w' = w := by
  go_enter Try.func15, Try.ntmps15
  go_wp2_with (first | (go_at_call 28; (with_reducible refine (asked_none _ v h x).mono ?_); rintro e w1 ⟨rfl, hw1⟩; replace hw1 := hw1.symm; subst hw1))
  go_ret
  exact ⟨rfl, rfl⟩
theorem unlock_none (w : World) (v : Value) (h : IsNone w v) (x : Int) : Calls Try.prog 16 #[v, .int .i64 x] w fun e w' => e = .returned (.int .i64 1) ∧ w' = w := by
  go_enter Try.func16, Try.ntmps16
  go_wp2_with (first | (go_at_call 28; (with_reducible refine (asked_none _ v h x).mono ?_); rintro e w1 ⟨rfl, hw1⟩; replace hw1 := hw1.symm; subst hw1))
  go_ret
  exact ⟨rfl, rfl⟩
theorem quiet_none (w : World) (v : Value) (h : IsNone w v) (x : Int) : Calls Try.prog 17 #[v, .int .i64 x] w fun e w' => e = .returned (.int .i64 1) ∧ w' = w := by
  go_enter Try.func17, Try.ntmps17
  go_wp2_with (first | (go_at_call 28; (with_reducible refine (asked_none _ v h x).mono ?_); rintro e w1 ⟨rfl, hw1⟩; replace hw1 := hw1.symm; subst hw1))
  go_ret
  exact ⟨rfl, rfl⟩
theorem call_none (w : World) (v : Value) (h : IsNone w v) (x i : Int) : Calls Try.prog 18 #[v, .int .i64 x, .int .i64 i] w fun e w' => e = .returned (.int .i64 1) ∧ w' = w := by
  go_enter Try.func18, Try.ntmps18
  go_wp2_with (first | (go_at_call 28; (with_reducible refine (asked_none _ v h x).mono ?_); rintro e w1 ⟨rfl, hw1⟩; replace hw1 := hw1.symm; subst hw1))
  go_ret
  exact ⟨rfl, rfl⟩
theorem poll_none (w : World) (v : Value) (h : IsNone w v) (x : Int) : Calls Try.prog 13 #[v, .int .i64 x] w fun e w' => e = .returned (.tuple #[.slice none 0 0, .int .i64 1]) ∧ w' = w := by
  go_enter Try.func13, Try.ntmps13
  go_wp2_with (first | (go_at_call 28; (with_reducible refine (asked_none _ v h x).mono ?_); rintro e w1 ⟨rfl, hw1⟩; replace hw1 := hw1.symm; subst hw1))
  go_ret2
  exact ⟨rfl, rfl⟩
theorem done_none (w : World) (v : Value) (h : IsNone w v) : Calls Try.prog 14 #[v] w fun e w' => e = .returned (.tuple #[.int .i64 0, .bool false]) ∧ w' = w := by
  go_enter Try.func14, Try.ntmps14
  go_wp2_with (first | (go_at_call 28; (with_reducible refine (asked_none _ v h 0).mono ?_); rintro e w1 ⟨rfl, hw1⟩; replace hw1 := hw1.symm; subst hw1))
  go_ret2
  exact ⟨rfl, rfl⟩
theorem depth_none (w : World) (v : Value) (h : IsNone w v) (x : Int) : Calls Try.prog 19 #[v, .int .i64 x] w fun e w' => e = .returned (.int .i64 0) ∧ w' = w := by
  go_enter Try.func19, Try.ntmps19
  go_wp2_with (first | (go_at_call 28; (with_reducible refine (asked_none _ v h x).mono ?_); rintro e w1 ⟨rfl, hw1⟩; replace hw1 := hw1.symm; subst hw1))
  go_ret
  exact ⟨rfl, rfl⟩
theorem waits_none (w : World) (v : Value) (h : IsNone w v) (x : Int) : Calls Try.prog 9 #[v, .int .i64 x] w fun e w' => e = .returned (.int .i64 0) ∧ w' = w := by
  go_enter Try.func9, Try.ntmps9
  go_wp2_with (first | (go_at_call 28; (with_reducible refine (asked_none _ v h x).mono ?_); rintro e w1 ⟨rfl, hw1⟩; replace hw1 := hw1.symm; subst hw1))
  go_ret
  exact ⟨rfl, rfl⟩
theorem wanted_none (w : World) (v : Value) (h : IsNone w v) (x : Int) : Calls Try.prog 20 #[v, .int .i64 x] w fun e w' => e = .returned (.bool false) ∧ w' = w := by
  go_enter Try.func20, Try.ntmps20
  go_wp2_with (first | (go_at_call 28; (with_reducible refine (asked_none _ v h x).mono ?_); rintro e w1 ⟨rfl, hw1⟩; replace hw1 := hw1.symm; subst hw1))
  go_ret
  exact ⟨rfl, rfl⟩

end Go.Proofs.Ytodaknidbdicdaa
