/-
  The walk of the law LayoutAt.
-/
import Derived.Test.YtibpaomkaknbhaaWalkG
namespace Go.Proofs.Ytibpaomkaknbhaa
open Go.RowKit

theorem refIndex_at (sz al st off ord obj was i v : Int) (b : Bool) (h : ixF ⟨sz, al, st, off, ord, obj, was⟩ i = (v, b)) (w : World) : Calls Try.prog 15 #[.agg #[.int .i64 sz, .int .i64 al, .int .i64 st, .int .i64 off, .int .i64 ord, .int .i64 obj, .int .i64 was], .int .i64 i] w fun r w' =>
    r = .returned (.tuple #[.int .i64 v, .bool b]) ∧ Below w.heap.size w w' := by
  have := refIndex_any ⟨sz, al, st, off, ord, obj, was⟩ i w
  rw [h] at this
  exact this

theorem layoutAt_any (l : Lay) (i at' : Int) (hi : at' ≤ 9223372036854775807) (w : World) : Calls Try.prog 5 #[.agg #[.int .i64 l.sz, .int .i64 l.al, .int .i64 l.st, .int .i64 l.off, .int .i64 l.ord, .int .i64 l.obj, .int .i64 l.was], .int .i64 i, .int .i64 at'] w fun e w' =>
    e = .returned (.bool true) ∧ Below w.heap.size w w' := by
  obtain ⟨sz, al, st, off, ord, obj, was⟩ := l
  rcases ha : atF ⟨sz, al, st, off, ord, obj, was⟩ i with ⟨v, e⟩
  rcases hx : ixF ⟨sz, al, st, off, ord, obj, was⟩ at' with ⟨u, b⟩
  have HA := Lib.hid ha
  have HX := Lib.hid hx
  clear ha hx
  go_enter Try.func5, Try.ntmps5
  go_wp2_with (first | (go_at_call 12; with_reducible refine (at_at _ _ _ _ _ _ _ _ _ _ HA.out _).mono ?_; rintro e w1 ⟨rfl, hb1⟩; have p1 := (Blk.new w 23 _).below hb1; have n1 := p1.lt; have c1 := p1.cell) | (go_at_call 13; with_reducible refine (refAt_at _ _ _ _ _ _ _ _ _ _ HA.out _).mono ?_; rintro e w2 ⟨rfl, hb2⟩; have p1 := p1.below hb2; have n1 := p1.lt; have c1 := p1.cell) | (go_at_call 14; with_reducible refine (index_at _ _ _ _ _ _ _ _ _ _ hi HX.out _).mono ?_; rintro e w3 ⟨rfl, hb3⟩; have p1 := p1.below hb3; have n1 := p1.lt; have c1 := p1.cell) | (go_at_call 15; with_reducible refine (refIndex_at _ _ _ _ _ _ _ _ _ _ HX.out _).mono ?_; rintro e w4 ⟨rfl, hb4⟩; have p1 := p1.below hb4; have n1 := p1.lt; have c1 := p1.cell) | (go_at_call 10; with_reducible refine (works_any _).mono ?_; rintro e w5 ⟨rfl, hb5⟩))
  have z1 := hb1.size
  have z2 := hb2.size
  have z3 := hb3.size
  have z4 := hb4.size
  rw [World.size_alloc] at z1
  go_ret
  exact ⟨rfl, by (repeat' (first | (with_reducible exact Below.refl _ _) | (with_reducible assumption) | (with_reducible refine Below.alloc ?_ ?_ _) | (with_reducible refine below_drewN ?_ _) | (with_reducible refine Below.drew ?_) | (with_reducible refine Below.setCell ?_ ?_ _) | (with_reducible refine below_two ?_ (by with_reducible assumption)) | go_size))⟩

end Go.Proofs.Ytibpaomkaknbhaa
