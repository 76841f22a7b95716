/-
  The walk of works: the chapter's examples.
-/
import Derived.Test.YtmljiklddjladaaWalkB
import Derived.Test.YtmljiklddjladaaWalkD
namespace Go.Proofs.Ytmljiklddjladaa
open Go.RowKit

theorem works_any (w : World) : Calls Try.prog 12 #[] w fun e w' => e = .returned (.bool true) ∧ Below w.heap.size w w' := by
  have a1 := Lib.hid (show packF 3 10 true true = (199171, 0) by decide +kernel)
  have a2 := Lib.hid (show headF 0 0 = (65, 0) by decide +kernel)
  have a3 := Lib.hid (show headF 31 (-1) = (2048, 0) by decide +kernel)
  have a4 := Lib.hid (show headF (-1) 0 = (0, 2) by decide +kernel)
  have a5 := Lib.hid (show partF 31 63 = (4064, 0) by decide +kernel)
  have a6 := Lib.hid (show partF 0 0 = (0, 2) by decide +kernel)
  have a7 := Lib.hid (show cntF 131072 = (⟨0, 0, false, false⟩, false) by decide +kernel)
  have a8 := Lib.hid (show headOfF 64 = (0, -1, true) by decide +kernel)
  have a9 := Lib.hid (show headOfF 1 = (-1, -1, false) by decide +kernel)
  have a10 := Lib.hid (show partOfF 1 = (-1, 0, false) by decide +kernel)
  go_enter Try.func12, Try.ntmps12
  go_wp2_with (first | (go_at_call 8; with_reducible refine (pack_at _ _ _ _ _ _ a1.out _).mono ?_; rintro e w1 ⟨rfl, hb1⟩) | (go_at_call 13; with_reducible refine (head_at _ _ _ _ a2.out _).mono ?_; rintro e w0 ⟨rfl, hw0⟩; replace hw0 := hw0.symm; subst hw0) | (go_at_call 13; with_reducible refine (head_at _ _ _ _ a3.out _).mono ?_; rintro e w0 ⟨rfl, hw0⟩; replace hw0 := hw0.symm; subst hw0) | (go_at_call 13; with_reducible refine (head_at _ _ _ _ a4.out _).mono ?_; rintro e w0 ⟨rfl, hw0⟩; replace hw0 := hw0.symm; subst hw0) | (go_at_call 15; with_reducible refine (part_at _ _ _ _ a5.out _).mono ?_; rintro e w0 ⟨rfl, hw0⟩; replace hw0 := hw0.symm; subst hw0) | (go_at_call 15; with_reducible refine (part_at _ _ _ _ a6.out _).mono ?_; rintro e w0 ⟨rfl, hw0⟩; replace hw0 := hw0.symm; subst hw0) | (go_at_call 10; with_reducible refine (counts_at 131072 _ _ _ _ _ (by omega) (by omega) a7.out _).mono ?_; rintro e w2 ⟨rfl, hb2⟩) | (go_at_call 17; with_reducible refine (headOf_at 64 _ _ _ (by omega) (by omega) a8.out _).mono ?_; rintro e w0 ⟨rfl, hw0⟩; replace hw0 := hw0.symm; subst hw0) | (go_at_call 17; with_reducible refine (headOf_at 1 _ _ _ (by omega) (by omega) a9.out _).mono ?_; rintro e w0 ⟨rfl, hw0⟩; replace hw0 := hw0.symm; subst hw0) | (go_at_call 19; with_reducible refine (partOf_at 1 _ _ _ (by omega) (by omega) a10.out _).mono ?_; rintro e w0 ⟨rfl, hw0⟩; replace hw0 := hw0.symm; subst hw0))
  have z1 := hb1.size
  have z2 := hb2.size
  go_ret
  exact ⟨rfl, by (repeat' (first | (with_reducible exact Below.refl _ _) | (with_reducible assumption) | (with_reducible refine Below.alloc ?_ ?_ _) | (with_reducible refine below_drewN ?_ _) | (with_reducible refine Below.drew ?_) | (with_reducible refine Below.setCell ?_ ?_ _) | (with_reducible refine below_two ?_ (by with_reducible assumption)) | go_size))⟩

end Go.Proofs.Ytmljiklddjladaa
