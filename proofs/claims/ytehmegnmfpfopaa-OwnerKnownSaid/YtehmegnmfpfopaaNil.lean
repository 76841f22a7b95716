/-
  Owners that are none.
-/
import Derived.Test.YtehmegnmfpfopaaWalkE
import Derived.WalkKit
import Derived.Deep.DeepMust
import Derived.WalkSpells
import Derived.WalkLawsBesides
import Derived.Handy
import Derived.Lib.Hide
import Derived.Deep.QuietTactic
import Derived.BigQuiet
namespace Go.Proofs.Ytehmegnmfpfopaa
open Go.RowKit

/-- No owner, or one without a map. -/
def IsNone (w : World) (v : Value) : Prop := v = .pointer none ∨ ∃ q, v = .pointer (some ⟨q, 0, none⟩) ∧ Blk w q 47 #[.int .i64 0, .int .i64 0, .map none]
theorem IsNone.below {w w' : World} {v : Value} (h : IsNone w v) (hb : Below w.heap.size w w') : IsNone w' v := by
  rcases h with h | ⟨q, h1, h2⟩
  · exact .inl h
  · exact .inr ⟨q, h1, h2.below hb⟩
theorem none_none (w : World) (v : Value) (h : IsNone w v) : Calls Try.prog 25 #[v] w fun e w' => e = .returned (.bool true) ∧ w' = w := by
  rcases h with rfl | ⟨q, rfl, hb⟩
  · go_enter Try.func25, Try.ntmps25
    go_wp2
    go_ret
    exact ⟨rfl, rfl⟩
  · have c2 := hb.cell 2
    have q45 : ∀ (w : World) (r : Option Nat), (binOp .eql 45 (.map r) (.map none)).run Try.prog w = .ok (.bool r.isNone) w := fun w r => run_eql_map_nil w _ _ _ r Try.underlying45
    go_enter Try.func25, Try.ntmps25
    go_wp2
    go_ret
    exact ⟨rfl, rfl⟩
theorem asked_none (w : World) (v : Value) (h : IsNone w v) (x y : Int) : Calls Try.prog 21 #[v, .agg #[.int .i64 x, .int .i64 y]] w fun e w' => e = .returned (.int .i64 1) ∧ Below w.heap.size w w' := by
  go_enter Try.func21, Try.ntmps21
  go_wp2_with (first | (go_at_call 25; (with_reducible refine (none_none _ v (h.below ((Below.refl _ _).alloc (Nat.le_refl _) _))).mono ?_); rintro e w1 ⟨rfl, hw1⟩; replace hw1 := hw1.symm; subst hw1))
  go_ret
  exact ⟨rfl, (Below.refl _ _).alloc (Nat.le_refl _) _⟩
theorem set_none (w : World) (v : Value) (h : IsNone w v) (x y g : Int) : Calls Try.prog 10 #[v, .int .i64 x, .int .i64 y, .int .i64 g] w fun e w' => e = .returned (.int .i64 1) ∧ Below w.heap.size w w' := by
  go_enter Try.func10, Try.ntmps10
  go_wp2_with (first | (go_at_call 21; (with_reducible refine (asked_none _ v (h.below ((Below.refl _ _).alloc (Nat.le_refl _) _)) x y).mono ?_); rintro e w1 ⟨rfl, hb1⟩))
  go_ret
  exact ⟨rfl, below_box hb1⟩
theorem clear_none (w : World) (v : Value) (h : IsNone w v) (x y : Int) : Calls Try.prog 12 #[v, .int .i64 x, .int .i64 y] w fun e w' => e = .returned (.tuple #[.int .i64 0, .int .i64 1]) ∧ Below w.heap.size w w' := by
  go_enter Try.func12, Try.ntmps12
  go_wp2_with (first | (go_at_call 21; (with_reducible refine (asked_none _ v (h.below ((Below.refl _ _).alloc (Nat.le_refl _) _)) x y).mono ?_); rintro e w1 ⟨rfl, hb1⟩))
  go_ret2
  exact ⟨rfl, below_box hb1⟩
theorem of_none (w : World) (v : Value) (h : IsNone w v) (x y : Int) : Calls Try.prog 18 #[v, .int .i64 x, .int .i64 y] w fun e w' => e = .returned (.int .i64 0) ∧ w' = w := by
  go_enter Try.func18, Try.ntmps18
  go_wp2_with (first | (go_at_call 25; (with_reducible refine (none_none _ v h).mono ?_); rintro e w1 ⟨rfl, hw1⟩; replace hw1 := hw1.symm; subst hw1))
  go_ret
  exact ⟨rfl, rfl⟩
theorem move_none (w : World) (v : Value) (h : IsNone w v) (x y : Int) : Calls Try.prog 14 #[v, .int .i64 x, .int .i64 y] w fun e w' => e = .returned (.tuple #[.int .i64 0, .int .i64 1]) ∧ w' = w := by
  go_enter Try.func14, Try.ntmps14
  go_wp2_with (first | (go_at_call 25; (with_reducible refine (none_none _ v h).mono ?_); rintro e w1 ⟨rfl, hw1⟩; replace hw1 := hw1.symm; subst hw1))
  go_ret2
  exact ⟨rfl, rfl⟩
theorem count_none (w : World) (v : Value) (h : IsNone w v) (g : Int) : Calls Try.prog 20 #[v, .int .i64 g] w fun e w' => e = .returned (.int .i64 0) ∧ w' = w := by
  go_enter Try.func20, Try.ntmps20
  go_wp2_with (first | (go_at_call 25; (with_reducible refine (none_none _ v h).mono ?_); rintro e w1 ⟨rfl, hw1⟩; replace hw1 := hw1.symm; subst hw1))
  go_ret
  exact ⟨rfl, rfl⟩
theorem empty_none (w : World) (v : Value) (h : IsNone w v) (x : Int) : Calls Try.prog 19 #[v, .int .i64 x] w fun e w' => e = .returned (.bool false) ∧ Below w.heap.size w w' := by
  go_enter Try.func19, Try.ntmps19
  go_wp2_with (first | (go_at_call 21; (with_reducible refine (asked_none _ v h x 0).mono ?_); rintro e w1 ⟨rfl, hb1⟩))
  go_ret
  exact ⟨rfl, hb1⟩

end Go.Proofs.Ytehmegnmfpfopaa
