/-
  The walk of the closed law LayoutNames.
-/
import Derived.Test.YtibpaomkaknbhaaLawA
import Derived.Test.YtibpaomkaknbhaaWalkG
namespace Go.Proofs.Ytibpaomkaknbhaa
open Go.RowKit

set_option maxRecDepth 100000 in
set_option maxHeartbeats 2000000 in
theorem names_any (w : World) : Calls Try.prog 7 #[] w fun e w' => e = .returned (.bool true) ∧ Below w.heap.size w w' := by
  have a1 := Lib.hid (show ofF 24 8 false = (⟨24, 8, 24, 0, 0, 10, 16⟩, 0) by decide +kernel)
  have a2 := Lib.hid (show ofF 2048 64 false = (⟨2048, 64, 2048, 0, 3, 1, 0⟩, 0) by decide +kernel)
  have b1 := Lib.hid (show atF ⟨24, 8, 24, 0, 0, 10, 16⟩ 9 = (216, 0) by decide +kernel)
  have b2 := Lib.hid (show atF ⟨24, 8, 24, 0, 0, 10, 16⟩ 10 = (0, 9) by decide +kernel)
  have b3 := Lib.hid (show atF ⟨24, 8, 24, 0, 0, 10, 16⟩ (-1) = (0, 9) by decide +kernel)
  have b4 := Lib.hid (show atF ⟨24, 8, 24, 0, 0, 10, 17⟩ 0 = (0, 2) by decide +kernel)
  have b5 := Lib.hid (show ixF ⟨24, 8, 24, 0, 0, 10, 17⟩ 0 = (0, false) by decide +kernel)
  go_enter Try.func7, Try.ntmps7
  go_wp2
  go_loopw [1] (fun j wr => ∃ k : Int, 0 ≤ k ∧ k ≤ 5 ∧ j = .int .i64 k ∧ Below w.heap.size w wr) (fun j _ => (5 - intOf j).toNat)
  case atStart => exact ⟨0, by omega, by omega, rfl, Below.refl _ _⟩
  case round =>
    obtain ⟨k, hk0, hk, rfl, hw⟩ := hrel
    have hz := hw.size
    by_cases hlt : k < 5
    · obtain rfl | rfl | rfl | rfl | rfl : k = 0 ∨ k = 1 ∨ k = 2 ∨ k = 3 ∨ k = 4 := by omega
      all_goals
        go_wp2
        obtain ⟨wo, rfl⟩ : ∃ wo : World, wo = wr := ⟨_, rfl⟩
        go_loopw [2] (fun j wr => ∃ m : Nat, m ≤ 66 ∧ j = .int .i64 m ∧ Below w.heap.size w wr) (fun j _ => 66 - (intOf j).toNat)
        case atStart => exact ⟨0, by omega, rfl, hw⟩
        case round =>
          clear hw hz
          obtain ⟨m, hm, rfl, hw⟩ := hrel
          have hz := hw.size
          by_cases hlt' : m < 66
          · go_wp2_with (first | (go_at_call 3; with_reducible refine (layoutOf_any _ _ _ _).mono ?_; rintro e w1 ⟨rfl, hb1⟩))
            have z1 := hb1.size
            rw [World.size_alloc] at z1
            go_roundw
            case rel => exact ⟨m + 1, by omega, by go_num, by (repeat' (first | (with_reducible exact Below.refl _ _) | (with_reducible assumption) | (with_reducible refine Below.alloc ?_ ?_ _) | (with_reducible refine below_drewN ?_ _) | (with_reducible refine Below.drew ?_) | (with_reducible refine Below.setCell ?_ ?_ _) | (with_reducible refine below_two ?_ (by with_reducible assumption)) | go_size))⟩
            case measure => simp [intOf]; omega
          · go_wp2
            go_roundw
            case rel => exact ⟨_, by decide, by decide, rfl, hw⟩
            case measure => simp [intOf]
    · go_wp2_with (first | (go_at_call 8; with_reducible refine (of_at 24 8 false _ _ _ _ _ _ _ _ a1.out _).mono ?_; rintro e w1 ⟨rfl, hb1⟩) | (go_at_call 12; with_reducible refine (at_at _ _ _ _ _ _ _ _ _ _ b1.out _).mono ?_; rintro e w2 ⟨rfl, hb2⟩; have p1 := (Blk.new w1 23 _).below hb2; have n1 := p1.lt; have c1 := p1.cell; have d1 := p1.frozen; have z1 := hb1.size; have z2 := hb2.size; rw [World.size_alloc] at z2) | (go_at_call 12; with_reducible refine (at_at _ _ _ _ _ _ _ _ _ _ b2.out _).mono ?_; rintro e w3 ⟨rfl, hb3⟩; have p1 := p1.below hb3; have n1 := p1.lt; have c1 := p1.cell; have d1 := p1.frozen; have z3 := hb3.size) | (go_at_call 12; with_reducible refine (at_at _ _ _ _ _ _ _ _ _ _ b3.out _).mono ?_; rintro e w4 ⟨rfl, hb4⟩; have p1 := p1.below hb4; have n1 := p1.lt; have c1 := p1.cell; have d1 := p1.frozen; have z4 := hb4.size) | (go_at_call 12; with_reducible refine (at_at _ _ _ _ _ _ _ _ _ _ b4.out _).mono ?_; rintro e w5 ⟨rfl, hb5⟩; have p1 := (p1.set_ 6 _).below hb5; have n1 := p1.lt; have c1 := p1.cell; have d1 := p1.frozen; have z5 := hb5.size) | (go_at_call 14; with_reducible refine (index_at _ _ _ _ _ _ _ _ _ _ (by omega) b5.out _).mono ?_; rintro e w6 ⟨rfl, hb6⟩; have z6 := hb6.size) | (go_at_call 8; with_reducible refine (of_at 2048 64 false _ _ _ _ _ _ _ _ a2.out _).mono ?_; rintro e w7 ⟨rfl, hb7⟩; have z7 := hb7.size) | (go_at_call 10; with_reducible refine (works_any _).mono ?_; rintro e w8 ⟨rfl, hb8⟩; have p7 := (Blk.new w7 23 _).below hb8; have n7 := p7.lt; have c7 := p7.cell; have z8 := hb8.size; rw [World.size_alloc] at z8))
      go_ret
      exact ⟨rfl, by (repeat' (first | (with_reducible exact Below.refl _ _) | (with_reducible assumption) | (with_reducible refine Below.alloc ?_ ?_ _) | (with_reducible refine below_drewN ?_ _) | (with_reducible refine Below.drew ?_) | (with_reducible refine Below.setCell ?_ ?_ _) | (with_reducible refine below_two ?_ (by with_reducible assumption)) | go_size))⟩

end Go.Proofs.Ytibpaomkaknbhaa
