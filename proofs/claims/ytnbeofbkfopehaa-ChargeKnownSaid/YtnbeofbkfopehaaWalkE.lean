/-
  The deferred closure of Try.
-/
import Derived.Test.YtnbeofbkfopehaaWalkC
import Derived.Defers
import Derived.WalkKit
import Derived.Deep.DeepMust
import Derived.WalkSpells
import Derived.WalkLawsBesides
import Derived.Handy
import Derived.Lib.Hide
import Derived.Deep.QuietTactic
import Derived.BigQuiet
namespace Go.Proofs.Ytnbeofbkfopehaa
open Go.RowKit

theorem undo_idle (w : World) (Rf X G Y : Nat) (hr : w.cell? ⟨Rf, 0, none⟩ = some (.bool false)) :
    CallsD Try.prog 24 #[.pointer (some ⟨Rf, 0, none⟩), .pointer (some ⟨X, 0, none⟩), .pointer (some ⟨G, 0, none⟩), .pointer (some ⟨Y, 0, none⟩)] .returning w fun e u' w' => u' = .returning ∧ (e = .returned (.tuple #[]) ∧ w' = w) := by
  go_enter_d Try.func24, Try.ntmps24
  go_wp2
  go_end0
  exact ⟨rfl, rfl⟩

theorem undo_do (w : World) (Rf X G Y b : Nat) (U M : Nat → Int) (hC : ChAt w b U M) (hF : Fine U M) (k : Nat) (hk : k < 16) (n : Int) (hn : 0 ≤ n) (hn2 : n ≤ 9007199254740991) (hr : w.cell? ⟨Rf, 0, none⟩ = some (.bool true)) (hx : w.cell? ⟨X, 0, none⟩ = some (.pointer (some ⟨b, 0, none⟩)))
    (hg : w.cell? ⟨G, 0, none⟩ = some (.int .i64 ((k : Int) + 1))) (hy : w.cell? ⟨Y, 0, none⟩ = some (.int .i64 n)) :
    CallsD Try.prog 24 #[.pointer (some ⟨Rf, 0, none⟩), .pointer (some ⟨X, 0, none⟩), .pointer (some ⟨G, 0, none⟩), .pointer (some ⟨Y, 0, none⟩)] .returning w fun e u' w' => u' = .returning ∧ (e = .returned (.tuple #[]) ∧ ChAt w' b (upd U k (U k - n)) M ∧ One b w w') := by
  obtain ⟨u0, u1, -, -⟩ := hF k hk
  obtain ⟨u, hu⟩ : ∃ u, U k = u := ⟨_, rfl⟩
  have c1 := hC.used hk
  have f1 := hC.frozen (1 + k)
  rw [hu] at c1 u0 u1 ⊢
  have HC := Lib.hid hC
  have k0 : (0 : Int) ≤ (k : Int) := by omega
  have k1 : (k : Int) < 16 := by omega
  have hx1 : (k : Int) + 1 - 1 = (k : Int) := by omega
  have w1k : IntKind.i64.wrap ((k : Nat) : Int) = (k : Int) := IntWalk.i64_in _ (by omega)
  have w3k : IntKind.i64.wrap (u - n) = u - n := IntWalk.i64_in _ (by omega)
  clear hC hu
  go_enter_d Try.func24, Try.ntmps24
  go_wp2
  go_region
  all_goals go_wp2
  all_goals go_end0
  all_goals exact ⟨rfl, by first | exact HC.out.setUsed hk _ | exact (HC.out.drewN _).setUsed hk _, by first | exact ((One.refl _ _).set _ _).drew | exact ((One.refl _ _).drewN _).set _ _⟩

end Go.Proofs.Ytnbeofbkfopehaa
