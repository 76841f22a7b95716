/-
  The walks of the reference's Out, Back.
-/
import Derived.Test.YtindgcbnpbhciaaRefB
import Derived.WalkKit
import Derived.Deep.DeepMust
import Derived.WalkSpells
import Derived.WalkLawsBesides
import Derived.Handy
import Derived.Lib.Hide
import Derived.Deep.QuietTactic
import Derived.BigQuiet
namespace Go.Proofs.Ytindgcbnpbhciaa
open Go.RowKit

theorem rout_no (w : World) (A : Option Addr) (n c : Nat) (xs : List Int) (hn : Hid (xs.length = n)) (hnc : n ≤ c) (hA : Row w A (bV xs)) (e : Int) (he : Hid (chkE false xs = e)) (h0 : e ≠ 0) :
    Calls Try.prog 17 #[.slice A n c] w fun r w' => r = .returned (.tuple #[.slice none 0 0, .int .i64 e]) ∧ Below w.heap.size w w' := by
  have HA := Lib.hid hA
  have t0 : (e != 0) = true := bne_iff_ne.2 h0
  obtain ⟨D, hD⟩ : ∃ D, Hid (chkA false xs = D) := ⟨_, Lib.hid rfl⟩
  clear hA h0
  go_enter Try.func17, Try.ntmps17
  go_wp2_with (first | (go_at_call 15; (with_reducible refine (rcheck_any _ A n c xs hn hnc HA.out false).mono ?_); rintro r w1 ⟨rfl, hb⟩; rw [hD.out, he.out]))
  go_ret2
  exact ⟨rfl, hb⟩
theorem rout_ok (w : World) (A : Option Addr) (s c : Nat) (xs : List Int) (hn : Hid (xs.length = s + 16)) (hnc : s + 16 ≤ c) (h2 : s ≤ 1024) (hA : Row w A (bV xs)) (he : Hid (chkE false xs = 0)) :
    Calls Try.prog 17 #[.slice A (s + 16) c] w fun e w' => ∃ g d, e = .returned (.tuple #[.slice (some ⟨g, 0, none⟩) (s + 16) d, .int .i64 0]) ∧ s + 16 ≤ d ∧ w.heap.size ≤ g ∧ RowM w' g (layL s 204 90 90) ∧ Below w.heap.size w w' := by
  have HA := Lib.hid hA
  obtain ⟨D, hD⟩ : ∃ D, Hid (chkA false xs = D) := ⟨_, Lib.hid rfl⟩
  clear hA
  go_enter Try.func17, Try.ntmps17
  go_wp2_with (first | (go_at_call 15; (with_reducible refine (rcheck_any _ A (s + 16) c xs hn hnc HA.out false).mono ?_); rintro r w1 ⟨rfl, hb⟩; rw [hD.out, he.out]; have z1 := hb.size) | (go_at_call 22; (with_reducible refine (rlaid_any s h2 204 90 90 (s : Int) rfl _).mono ?_); rintro e w2 ⟨g, d, cu, rfl, hd, hg, hM, hb2, -, -, -⟩))
  go_ret2
  exact ⟨g, d, rfl, hd, by omega, hM, hb.trans (hb2.mono z1)⟩
theorem rback_no (w : World) (A : Option Addr) (n c : Nat) (xs : List Int) (hn : Hid (xs.length = n)) (hnc : n ≤ c) (hA : Row w A (bV xs)) (e : Int) (he : Hid (chkE true xs = e)) (h0 : e ≠ 0) :
    Calls Try.prog 19 #[.slice A n c] w fun r w' => r = .returned (.tuple #[.slice none 0 0, .int .i64 e]) ∧ Below w.heap.size w w' := by
  have HA := Lib.hid hA
  have t0 : (e != 0) = true := bne_iff_ne.2 h0
  obtain ⟨D, hD⟩ : ∃ D, Hid (chkA true xs = D) := ⟨_, Lib.hid rfl⟩
  clear hA h0
  go_enter Try.func19, Try.ntmps19
  go_wp2_with (first | (go_at_call 15; (with_reducible refine (rcheck_any _ A n c xs hn hnc HA.out true).mono ?_); rintro r w1 ⟨rfl, hb⟩; rw [hD.out, he.out]))
  go_ret2
  exact ⟨rfl, hb⟩
theorem rback_ok (w : World) (A : Option Addr) (s c : Nat) (xs : List Int) (hn : Hid (xs.length = s + 16)) (hnc : s + 16 ≤ c) (h2 : s ≤ 1024) (hA : Row w A (bV xs)) (he : Hid (chkE true xs = 0)) :
    Calls Try.prog 19 #[.slice A (s + 16) c] w fun e w' => ∃ g d, e = .returned (.tuple #[.slice (some ⟨g, 0, none⟩) (s + 16) d, .int .i64 0]) ∧ s + 16 ≤ d ∧ w.heap.size ≤ g ∧ RowM w' g (layL s 187 107 165) ∧ Below w.heap.size w w' := by
  have HA := Lib.hid hA
  obtain ⟨D, hD⟩ : ∃ D, Hid (chkA true xs = D) := ⟨_, Lib.hid rfl⟩
  clear hA
  go_enter Try.func19, Try.ntmps19
  go_wp2_with (first | (go_at_call 15; (with_reducible refine (rcheck_any _ A (s + 16) c xs hn hnc HA.out true).mono ?_); rintro r w1 ⟨rfl, hb⟩; rw [hD.out, he.out]; have z1 := hb.size) | (go_at_call 22; (with_reducible refine (rlaid_any s h2 187 107 165 (s : Int) rfl _).mono ?_); rintro e w2 ⟨g, d, cu, rfl, hd, hg, hM, hb2, -, -, -⟩))
  go_ret2
  exact ⟨g, d, rfl, hd, by omega, hM, hb.trans (hb2.mono z1)⟩

end Go.Proofs.Ytindgcbnpbhciaa
