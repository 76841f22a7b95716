/-
  The walk of Bring.
-/
import Derived.Test.YtodaknidbdicdaaRows
import Derived.Test.YtodaknidbdicdaaBringP
import Derived.Test.YtodaknidbdicdaaWorlds
import Derived.WalkKit
import Derived.Deep.DeepMust
import Derived.WalkSpells
import Derived.WalkLawsBesides
import Derived.Handy
import Derived.Lib.Hide
import Derived.Deep.QuietTactic
import Derived.BigQuiet
namespace Go.Proofs.Ytodaknidbdicdaa
open Go.RowKit

theorem bring_any (i n : Int) (hn : 1 ≤ n) (hn' : n ≤ 4611686018427387904) (w : World) : Calls Try.prog 24 #[.int .i64 i, .int .i64 n] w fun e w' =>
    e = .returned (.int .i64 (i % n)) ∧ w' = w := by
  have hb := tmod_abs (i := i) hn
  by_cases h : i.tmod n < 0
  · have hf := Lib.hid (tmod_bring_neg hn h)
    have hl : -n < i.tmod n := hb.1
    go_enter Try.func24, Try.ntmps24
    go_wp2
    go_ret
    exact ⟨ret_int hf.out, rfl⟩
  · have hf := Lib.hid (tmod_bring_pos (i := i) hn (by omega))
    go_enter Try.func24, Try.ntmps24
    go_wp2
    go_ret
    exact ⟨ret_int hf.out, rfl⟩

end Go.Proofs.Ytodaknidbdicdaa
