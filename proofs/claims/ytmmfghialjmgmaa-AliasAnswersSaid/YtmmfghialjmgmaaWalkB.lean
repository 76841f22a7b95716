/-
  The walks of the other text's Check, and of Step (of both texts).
-/
import Derived.Test.YtmmfghialjmgmaaRows
import Derived.Test.YtmmfghialjmgmaaPlain
import Derived.Test.YtmmfghialjmgmaaFrame
import Derived.Test.YtmmfghialjmgmaaWalkA
import Derived.WalkKit
import Derived.WalkSpells
import Derived.WalkLawsBesides
import Derived.Handy
import Derived.Lib.Hide
import Derived.Deep.RegionHeld3
import Derived.Deep.QuietTactic
import Derived.BigQuiet
namespace Go.Proofs.Ytmmfghialjmgmaa
open Go.RowKit

theorem refCheck_any (s a f : Int) (w : World) : Calls Try.prog 10 #[.agg #[.int .i64 s, .int .i64 a, .int .i64 f]] w fun e w' =>
    e = .returned (.int .i64 (errOf s a f)) ∧ Below w.heap.size w w' := by
  go_enter Try.func10, Try.ntmps10
  go_wp2
  all_goals
    go_ret
    refine ⟨ret_int ?_, by go_grown⟩
    first
    | exact errOf_align (by rw [alignB_iff]; omega)
    | exact errOf_out (by omega)
    | exact errOf_yes ((alignB_iff _).2 (by omega)) (by omega) (by omega) (by omega) (by omega)

end Go.Proofs.Ytmmfghialjmgmaa
