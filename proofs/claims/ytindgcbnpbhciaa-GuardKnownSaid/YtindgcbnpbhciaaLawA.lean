/-
  The walk of works: the chapter's objects.
-/
import Derived.Test.YtindgcbnpbhciaaRefC
import Derived.WalkKit
import Derived.Deep.DeepMust
import Derived.WalkSpells
import Derived.WalkLawsBesides
import Derived.Handy
import Derived.Lib.Hide
import Derived.Deep.QuietTactic
import Derived.BigQuiet
namespace Go.Proofs.Ytindgcbnpbhciaa
open Go.RowKit

theorem lay_at (n N : Nat) (z : Int) (hz : (n : Int) = z) (hN : n + 16 = N) (h1 : 1 ≤ n) (hn : n ≤ 1024) (w : World) : Calls Try.prog 9 #[.int .i64 z] w fun e w' => ∃ g c, e = .returned (.tuple #[.slice (some ⟨g, 0, none⟩) N c, .int .i64 0]) ∧ N ≤ c ∧ w.heap.size ≤ g ∧ RowM w' g (layL n 187 107 165) ∧ Below w.heap.size w w' := by
  subst hz hN
  exact lay_ok n h1 hn w
theorem out_at (w : World) (A : Option Addr) (s N c : Nat) (hN : s + 16 = N) (xs : List Int) (hn : Hid (xs.length = N)) (hnc : N ≤ c) (h2 : s ≤ 1024) (hA : Row w A (bV xs)) (he : Hid (chkE false xs = 0)) :
    Calls Try.prog 16 #[.slice A N c] w fun e w' => ∃ g d, e = .returned (.tuple #[.slice (some ⟨g, 0, none⟩) N d, .int .i64 0]) ∧ N ≤ d ∧ w.heap.size ≤ g ∧ RowM w' g (layL s 204 90 90) ∧ Below w.heap.size w w' := by
  subst hN
  exact out_ok w A s c xs hn hnc h2 hA he
theorem back_at (w : World) (A : Option Addr) (s N c : Nat) (hN : s + 16 = N) (xs : List Int) (hn : Hid (xs.length = N)) (hnc : N ≤ c) (h1 : 1 ≤ s) (h2 : s ≤ 1024) (hA : Row w A (bV xs)) (he : Hid (chkE true xs = 0)) :
    Calls Try.prog 18 #[.slice A N c] w fun e w' => ∃ g d, e = .returned (.tuple #[.slice (some ⟨g, 0, none⟩) N d, .int .i64 0]) ∧ N ≤ d ∧ w.heap.size ≤ g ∧ RowM w' g (layL s 187 107 165) ∧ Below w.heap.size w w' := by
  subst hN
  exact back_ok w A s c xs hn hnc h1 h2 hA he

theorem made16 (w : World) : ∃ cs : Array Value, (Instr.makeSlice 22 (.int .i64 16) (.int .i64 16)).run Try.prog w = .ok (.slice (some ⟨w.heap.size, 0, none⟩) 16 16) (w.alloc (.cells cs 5)) := by
  obtain ⟨i0, hi, hz0, hz1, hz2⟩ := info_parts Try.infoB
  have := run_make (P := Try.prog) w 22 5 i0 (.int .u8 0) Try.underlying22 hi hz0 .i64 .i64 16 16 (by omega) (by omega) (by rw [hz2]; omega) (by omega)
  exact ⟨_, this⟩

set_option maxRecDepth 100000 in
set_option maxHeartbeats 2000000 in
theorem works_any (w : World) : Calls Try.prog 12 #[] w fun e w' => e = .returned (.bool true) ∧ Below w.heap.size w w' := by
  have l2 : Hid ((layL 2 187 107 165).length = 18) := Lib.hid (layL_len ..)
  have l1 : Hid ((layL 1 187 107 165).length = 17) := Lib.hid (layL_len ..)
  have l3 : Hid ((layL 2 204 90 90).length = 18) := Lib.hid (layL_len ..)
  have l0 : Hid ((List.replicate 16 (0 : Int)).length = 16) := Lib.hid rfl
  have e1 : Hid (chkE false (layL 2 187 107 165) = 0) := Lib.hid (by decide +kernel)
  have e2 : Hid (chkE true (layL 2 187 107 165) = 180) := Lib.hid (by decide +kernel)
  have a2 : Hid (chkA true (layL 2 187 107 165) = 0) := Lib.hid (by decide +kernel)
  have e3 : Hid (chkE false (layL 1 187 107 165) = 0) := Lib.hid (by decide +kernel)
  have a3 : Hid (chkA false (layL 1 187 107 165) = 0) := Lib.hid (by decide +kernel)
  have e4 : Hid (chkE false (List.replicate 16 0) = 2) := Lib.hid (by decide +kernel)
  have a4 : Hid (chkA false (List.replicate 16 0) = 0) := Lib.hid (by decide +kernel)
  have s1 : Hid (strOfNums (layL 2 187 107 165) = ⟨#[187, 187, 187, 187, 187, 187, 187, 187, 107, 165, 187, 187, 187, 187, 187, 187, 187, 187]⟩) := Lib.hid (by decide +kernel)
  have s2 : Hid (strOfNums (layL 2 204 90 90) = ⟨#[204, 204, 204, 204, 204, 204, 204, 204, 90, 90, 204, 204, 204, 204, 204, 204, 204, 204]⟩) := Lib.hid (by decide +kernel)
  go_enter Try.func12, Try.ntmps12
  go_wp2_with (first | (go_at_call 9; (with_reducible refine (lay_at 2 18 2 (by omega) (by omega) (by omega) (by omega) _).mono ?_); rintro e w1 ⟨g1, c1, rfl, h1, hg1, hM1, hb1⟩; have z1 := hb1.size) | (go_at_call 16; (with_reducible refine (out_at _ (some ⟨g1, 0, none⟩) 2 18 c1 (by omega) _ l2 h1 (by omega) hM1.row e1).mono ?_); rintro e w2 ⟨g2, c2, rfl, h2, hg2, hM2, hb2⟩; replace hM1 := hM1.below hb2; replace hb2 := hb1.trans (hb2.mono z1); have z2 := hb2.size) | (go_at_call 13; (with_reducible refine (check_any _ (some ⟨g1, 0, none⟩) 18 c1 _ l2 h1 (by omega) hM1.row true).mono ?_); rintro e w3 ⟨rfl, hb3⟩; rw [e2.out, a2.out]; replace hM1 := hM1.below hb3; replace hM2 := hM2.below hb3; replace hb3 := hb2.trans (hb3.mono z2); have z3 := hb3.size) | (go_at_call 9; (with_reducible refine (lay_at 1 17 1 (by omega) (by omega) (by omega) (by omega) _).mono ?_); rintro e w4 ⟨g4, c4, rfl, h4, hg4, hM4, hb4⟩; replace hM1 := hM1.below hb4; replace hM2 := hM2.below hb4; replace hb4 := hb3.trans (hb4.mono z3); have z4 := hb4.size) | (go_at_call 13; (with_reducible refine (check_any _ (some ⟨g4, 0, none⟩) 17 c4 _ l1 h4 (by omega) hM4.row false).mono ?_); rintro e w5 ⟨rfl, hb5⟩; rw [e3.out, a3.out]; replace hM1 := hM1.below hb5; replace hM2 := hM2.below hb5; replace hb5 := hb4.trans (hb5.mono z4); have z5 := hb5.size; obtain ⟨cs, hmk⟩ := made16 w5) | (go_at_call 13; (with_reducible refine (check_size _ (some ⟨w5.heap.size, 0, none⟩) 16 16 _ l0 (by omega) (by omega) false).mono ?_); rintro e w6 ⟨rfl, hb6⟩; rw [e4.out, a4.out]; replace hM1 := (hM1.below ((Below.refl _ _).alloc (Nat.le_refl _) _)).below hb6; replace hM2 := (hM2.below ((Below.refl _ _).alloc (Nat.le_refl _) _)).below hb6; have r1 := run_str w6 (some ⟨g1, 0, none⟩) 18 c1 _ l2.out hM1.row; have r2 := run_str w6 (some ⟨g2, 0, none⟩) 18 c2 _ l3.out hM2.row; rw [s1.out] at r1; rw [s2.out] at r2; have hbe := (hb5.alloc z5 (.cells cs 5)).trans (hb6.mono (by simp; omega)); clear hmk))
  go_ret
  exact ⟨rfl, hbe⟩

end Go.Proofs.Ytindgcbnpbhciaa
