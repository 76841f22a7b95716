/-
  works: the chapter's owners.
-/
import Derived.Test.YtehmegnmfpfopaaWalkE
import Derived.WalkKit
import Derived.Deep.DeepMust
import Derived.WalkSpells
import Derived.WalkLawsBesides
import Derived.Handy
import Derived.Lib.Hide
import Derived.Deep.QuietTactic
import Derived.BigQuiet
namespace Go.Proofs.Ytehmegnmfpfopaa
open Go.RowKit

theorem w64_of {x : Int} (h : (Lit.int .i64 x).wf = true) : w64 x := h
def W0 : Int → Int → Int := fun _ _ => 0
def W1 : Int → Int → Int := setF 2 4 W0 1 3 5
def W2 : Int → Int → Int := setF 2 4 W1 1 3 6
def W3 : Int → Int → Int := setF 2 4 W2 2 0 1
def W4 : Int → Int → Int := setF 2 4 W3 0 0 5
def W5 : Int → Int → Int := movedF W4 5 2
def W6 : Int → Int → Int := putF W5 1 3 0
def W7 : Int → Int → Int := putF W6 1 3 0

set_option maxRecDepth 100000 in
set_option maxHeartbeats 2000000 in
theorem works_any (w : World) : Calls Try.prog 17 #[] w fun e w' => e = .returned (.bool true) ∧ Below w.heap.size w w' := by
  have E1 : Hid (setE 2 4 W0 1 3 5 = 0) := Lib.hid (by decide)
  have E2 : Hid (setE 2 4 W1 1 3 6 = 140) := Lib.hid (by decide)
  have V2 : Hid (W2 1 3 = 5) := Lib.hid (by decide)
  have E3 : Hid (setE 2 4 W2 2 0 1 = 9) := Lib.hid (by decide)
  have E4 : Hid (setE 2 4 W3 0 0 5 = 0) := Lib.hid (by decide)
  have E5 : Hid (moveE 5 2 = 0) := Lib.hid (by decide)
  have V5 : Hid (moveN 2 4 W4 5 2 = 2) := Lib.hid (by decide)
  have C5 : Hid (((cntF 2 4 W5 2 : Nat) : Int) = 2) := Lib.hid (by decide)
  have E6 : Hid (clearE 2 4 W5 1 3 = 0) := Lib.hid (by decide)
  have V6 : Hid (W5 1 3 = 2) := Lib.hid (by decide)
  have E7 : Hid (clearE 2 4 W6 1 3 = 140) := Lib.hid (by decide)
  have V7 : Hid (W6 1 3 = 0) := Lib.hid (by decide)
  have E8 : Hid (emptyF 2 4 W7 1 = true) := Lib.hid (by decide)
  have hnew := fun v : World => (new_ok 2 4 (by omega) (by omega) (by omega) (by omega) v)
  go_enter Try.func17, Try.ntmps17
  go_wp2_with (first | (go_at_call 7; refine (hnew _).mono ?_; rintro e w1 ⟨b, m, rfl, hb, hm, h0, hB⟩; replace h0 : OwnAt w1 b m 2 4 0 W0 := h0) | (go_at_call 10; (with_reducible refine (set_any _ b m 2 4 0 W0 h0 (by omega) 1 3 5 (w64_of rfl) (w64_of rfl) (w64_of rfl)).mono ?_); rintro e w2 ⟨rfl, h1, hT⟩; rw [E1.out]; replace hB := hT.below hB hm hB.size; clear hT h0; replace h1 : OwnAt w2 b m 2 4 1 W1 := h1) | (go_at_call 10; (with_reducible refine (set_any _ b m 2 4 1 W1 h1 (by omega) 1 3 6 (w64_of rfl) (w64_of rfl) (w64_of rfl)).mono ?_); rintro e w3 ⟨rfl, h2, hT⟩; rw [E2.out]; replace hB := hT.below hB hm hB.size; clear hT h1; replace h2 : OwnAt w3 b m 2 4 2 W2 := h2) | (go_at_call 18; (with_reducible refine (of_any _ b m 2 4 2 W2 h2 1 3 (w64_of rfl) (w64_of rfl)).mono ?_); rintro e wq ⟨rfl, hwq⟩; rw [V2.out]; replace hwq := hwq.symm; subst hwq) | (go_at_call 10; (with_reducible refine (set_any _ b m 2 4 2 W2 h2 (by omega) 2 0 1 (w64_of rfl) (w64_of rfl) (w64_of rfl)).mono ?_); rintro e w4 ⟨rfl, h3, hT⟩; rw [E3.out]; replace hB := hT.below hB hm hB.size; clear hT h2; replace h3 : OwnAt w4 b m 2 4 3 W3 := h3) | (go_at_call 10; (with_reducible refine (set_any _ b m 2 4 3 W3 h3 (by omega) 0 0 5 (w64_of rfl) (w64_of rfl) (w64_of rfl)).mono ?_); rintro e w5 ⟨rfl, h4, hT⟩; rw [E4.out]; replace hB := hT.below hB hm hB.size; clear hT h3; replace h4 : OwnAt w5 b m 2 4 4 W4 := h4) | (go_at_call 14; (with_reducible refine (move_any _ b m 2 4 4 W4 h4 (by omega) 5 2).mono ?_); rintro e w6 ⟨rfl, h5, hT⟩; rw [E5.out, V5.out]; replace hB := hT.below hB hm hB.size; clear hT h4; replace h5 : OwnAt w6 b m 2 4 4 W5 := h5) | (go_at_call 20; (with_reducible refine (count_any _ b m 2 4 4 W5 h5 2).mono ?_); rintro e w7 ⟨rfl, hT⟩; rw [C5.out]; replace hB := hB.trans (hT.mono hB.size); replace h5 := h5.below hT; clear hT) | (go_at_call 12; (with_reducible refine (clear_any _ b m 2 4 4 W5 h5 1 3 (w64_of rfl) (w64_of rfl)).mono ?_); rintro e w8 ⟨rfl, h6, hT⟩; rw [E6.out, V6.out]; replace hB := hT.below hB hm hB.size; clear hT h5; replace h6 : OwnAt w8 b m 2 4 4 W6 := h6) | (go_at_call 12; (with_reducible refine (clear_any _ b m 2 4 4 W6 h6 1 3 (w64_of rfl) (w64_of rfl)).mono ?_); rintro e w9 ⟨rfl, h7, hT⟩; rw [E7.out, V7.out]; replace hB := hT.below hB hm hB.size; clear hT h6; replace h7 : OwnAt w9 b m 2 4 4 W7 := h7) | (go_at_call 19; (with_reducible refine (empty_any _ b m 2 4 4 W7 h7 1 (w64_of rfl)).mono ?_); rintro e w10 ⟨rfl, hT⟩; rw [E8.out]; replace hB := hB.trans (hT.mono hB.size); clear hT))
  go_ret
  exact ⟨rfl, hB⟩

end Go.Proofs.Ytehmegnmfpfopaa
