/-
  The closures that draw their order.
-/
import Derived.Test.YtfhbfjlbflkbhaaRows
import Derived.Test.YtfhbfjlbflkbhaaState
import Derived.Test.YtfhbfjlbflkbhaaExt
import Derived.Test.YtfhbfjlbflkbhaaTail
import Derived.WalkKit
import Derived.Deep.DeepMust
import Derived.WalkSpells
import Derived.WalkLawsBesides
import Derived.Handy
import Derived.Lib.Hide
import Derived.Deep.QuietTactic
import Derived.BigQuiet
namespace Go.Proofs.Ytfhbfjlbflkbhaa
open Go.RowKit

theorem add1_ok (w : World) (g i c p q : Nat) (x z v y : Int) (gp : g ≠ p) (gq : g ≠ q) (pq : p ≠ q)
    (cx : w.cell? ⟨g, i, none⟩ = some (.int .u64 x)) (fx : w.frozen? ⟨g, i, none⟩ = false) (cp : w.cell? ⟨p, 0, none⟩ = some (.int .u64 z)) (fp : w.frozen? ⟨p, 0, none⟩ = false)
    (cq : w.cell? ⟨q, 0, none⟩ = some (.int .u64 v)) (hy : Hid (IntKind.u64.wrap (x + v) = y)) :
    Calls Try.prog 25 #[.slice (some ⟨g, i, none⟩) 1 c, .pointer (some ⟨p, 0, none⟩), .pointer (some ⟨q, 0, none⟩)] w fun e w' =>
      e = .returned (.tuple #[]) ∧ w' = ((w.setCell ⟨p, 0, none⟩ (.int .u64 x)).setCell ⟨g, i, none⟩ (.int .u64 y)).drew := by
  go_enter Try.func25, Try.ntmps25
  go_wp2
  go_region
  all_goals go_wp2
  all_goals go_end0
  all_goals exact ⟨rfl, by rw [hy.out]⟩

theorem cas1_ok (w : World) (g i c p q r : Nat) (x o v : Int) (z : Bool) (gp : g ≠ p) (gq : g ≠ q) (gr : g ≠ r) (pq : p ≠ q) (pr : p ≠ r)
    (cx : w.cell? ⟨g, i, none⟩ = some (.int .u64 x)) (fx : w.frozen? ⟨g, i, none⟩ = false) (cp : w.cell? ⟨p, 0, none⟩ = some (.bool z)) (fp : w.frozen? ⟨p, 0, none⟩ = false)
    (cq : w.cell? ⟨q, 0, none⟩ = some (.int .u64 o)) (cr : w.cell? ⟨r, 0, none⟩ = some (.int .u64 v)) :
    Calls Try.prog 29 #[.slice (some ⟨g, i, none⟩) 1 c, .pointer (some ⟨q, 0, none⟩), .pointer (some ⟨p, 0, none⟩), .pointer (some ⟨r, 0, none⟩)] w fun e w' =>
      e = .returned (.tuple #[]) ∧ w' = (if x = o then (w.setCell ⟨p, 0, none⟩ (.bool true)).setCell ⟨g, i, none⟩ (.int .u64 v) else w.setCell ⟨p, 0, none⟩ (.bool false)).drew := by
  by_cases h : x = o
  · subst h
    have hx : decide (x = x) = true := by simp
    go_enter Try.func29, Try.ntmps29
    go_wp2
    go_region
    all_goals go_wp2
    all_goals go_end0
    all_goals exact ⟨rfl, rfl⟩
  · go_enter Try.func29, Try.ntmps29
    go_wp2
    go_region
    all_goals go_wp2
    all_goals go_end0
    all_goals exact ⟨rfl, rfl⟩

set_option maxHeartbeats 2000000 in
theorem cas2c_ok (w : World) (g i c p q r t u : Nat) (x y o s v v' : Int) (z : Bool) (gp : g ≠ p) (gq : g ≠ q) (gr : g ≠ r) (gt : g ≠ t) (gu : g ≠ u) (pq : p ≠ q) (pr : p ≠ r) (pt : p ≠ t) (pu : p ≠ u)
    (cx : w.cell? ⟨g, i, none⟩ = some (.int .u64 x)) (fx : w.frozen? ⟨g, i, none⟩ = false) (cy : w.cell? ⟨g, i + 1, none⟩ = some (.int .u64 y)) (fy : w.frozen? ⟨g, i + 1, none⟩ = false)
    (cp : w.cell? ⟨p, 0, none⟩ = some (.bool z)) (fp : w.frozen? ⟨p, 0, none⟩ = false)
    (cq : w.cell? ⟨q, 0, none⟩ = some (.int .u64 o)) (cr : w.cell? ⟨r, 0, none⟩ = some (.int .u64 s)) (ct : w.cell? ⟨t, 0, none⟩ = some (.int .u64 v)) (cu : w.cell? ⟨u, 0, none⟩ = some (.int .u64 v')) :
    Calls Try.prog 28 #[.slice (some ⟨g, i, none⟩) 2 c, .pointer (some ⟨q, 0, none⟩), .pointer (some ⟨r, 0, none⟩), .pointer (some ⟨p, 0, none⟩), .pointer (some ⟨t, 0, none⟩), .pointer (some ⟨u, 0, none⟩)] w fun e w' =>
      e = .returned (.tuple #[]) ∧ w' = (if x = o ∧ y = s then (((w.setCell ⟨p, 0, none⟩ (.bool true)).drew.setCell ⟨g, i, none⟩ (.int .u64 v)).setCell ⟨g, i + 1, none⟩ (.int .u64 v')).drew else (w.setCell ⟨p, 0, none⟩ (.bool false)).drew) := by
  by_cases h : x = o
  · by_cases h' : y = s
    · subst h h'
      go_enter Try.func28, Try.ntmps28
      go_wp2
      go_region
      all_goals go_wp2
      all_goals go_region
      all_goals go_wp2
      all_goals go_end0
      all_goals exact ⟨rfl, rfl⟩
    · subst h
      go_enter Try.func28, Try.ntmps28
      go_wp2
      go_region
      all_goals go_wp2
      all_goals go_end0
      all_goals exact ⟨rfl, rfl⟩
  · go_enter Try.func28, Try.ntmps28
    go_wp2
    go_region
    all_goals go_wp2
    all_goals go_end0
    all_goals exact ⟨rfl, rfl⟩

end Go.Proofs.Ytfhbfjlbflkbhaa
