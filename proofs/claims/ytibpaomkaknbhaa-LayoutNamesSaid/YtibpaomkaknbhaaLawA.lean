/-
  The walk of the law LayoutOf.
-/
import Derived.Test.YtibpaomkaknbhaaWalkE
namespace Go.Proofs.Ytibpaomkaknbhaa
open Go.RowKit

theorem layoutOf_any (s a : Int) (g : Bool) (w : World) : Calls Try.prog 3 #[.int .i64 s, .int .i64 a, .bool g] w fun e w' =>
    e = .returned (.bool true) ∧ Below w.heap.size w w' := by
  rcases hx : ofF s a g with ⟨⟨sz, al, st, off, ord, obj, was⟩, e⟩
  have HX := Lib.hid hx
  clear hx
  go_enter Try.func3, Try.ntmps3
  go_wp2_with (first | (go_at_call 8; with_reducible refine (of_at s a g _ _ _ _ _ _ _ _ HX.out _).mono ?_; rintro e w1 ⟨rfl, hb1⟩) | (go_at_call 9; with_reducible refine (refOf_at s a g _ _ _ _ _ _ _ _ HX.out _).mono ?_; rintro e w2 ⟨rfl, hb2⟩; have p1 := (Blk.new w1 23 _).below hb2; have n1 := p1.lt; have c1 := p1.cell) | (go_at_call 10; with_reducible refine (works_any _).mono ?_; rintro e w3 ⟨rfl, hb3⟩))
  have z1 := hb1.size
  have z2 := hb2.size
  rw [World.size_alloc] at z2
  go_ret
  exact ⟨rfl, by (repeat' (first | (with_reducible exact Below.refl _ _) | (with_reducible assumption) | (with_reducible refine Below.alloc ?_ ?_ _) | (with_reducible refine below_drewN ?_ _) | (with_reducible refine Below.drew ?_) | (with_reducible refine Below.setCell ?_ ?_ _) | (with_reducible refine below_two ?_ (by with_reducible assumption)) | go_size))⟩

end Go.Proofs.Ytibpaomkaknbhaa
