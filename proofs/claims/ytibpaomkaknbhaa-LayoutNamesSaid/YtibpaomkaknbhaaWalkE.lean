/-
  Of, of all (of both texts); the walk of works.
-/
import Derived.Test.YtibpaomkaknbhaaWalkC
import Derived.Test.YtibpaomkaknbhaaWalkD
namespace Go.Proofs.Ytibpaomkaknbhaa
open Go.RowKit

theorem of_any (s a : Int) (g : Bool) (w : World) : Calls Try.prog 8 #[.int .i64 s, .int .i64 a, .bool g] w fun e w' =>
    e = .returned (.tuple #[layV (ofF s a g).1, .int .i64 (ofF s a g).2]) ∧ Below w.heap.size w w' := by
  cases h : okL s a
  · rw [show ofF s a g = (lay0, 2) by rw [ofF, if_neg (by rw [h]; exact Bool.false_ne_true)]]
    exact of_no s a g h w
  · obtain ⟨h1, h2, h3⟩ := (okL_iff s a).1 h
    have hb : (bits .and .i64 a (a - 1) != 0) = false := by rw [andB (by omega) (by omega), (alB_iff a).2 h3]; rfl
    rw [show ofF s a g = scan (bodyOf s a g) 4 0 none by rw [ofF, if_pos h]]
    exact of_ok s a _ _ g h1 h2 (by omega) (by omega) hb rfl rfl _ (Lib.hid rfl) w

theorem refOf_no (s a : Int) (g : Bool) (h : okL s a = false) (w : World) : Calls Try.prog 9 #[.int .i64 s, .int .i64 a, .bool g] w fun e w' =>
    e = .returned (.tuple #[layV lay0, .int .i64 2]) ∧ Below w.heap.size w w' := by
  have hn : ¬ (1 ≤ s ∧ s ≤ 2048 ∧ alB a = true) := by
    rw [alB_iff, ← okL_iff, h]; exact Bool.false_ne_true
  by_cases h1 : s < 1
  · clear hn h
    go_enter Try.func9, Try.ntmps9
    go_wp2
    exact bodyPost_ret (v := .tuple #[.agg #[.int .i64 0, .int .i64 0, .int .i64 0, .int .i64 0, .int .i64 0, .int .i64 0, .int .i64 0], .int .i64 2]) (by simp [results, Try.results9, go_sem]) rfl ⟨rfl, by (repeat' (first | (with_reducible exact Below.refl _ _) | (with_reducible assumption) | (with_reducible refine Below.alloc ?_ ?_ _) | (with_reducible refine below_drewN ?_ _) | (with_reducible refine Below.drew ?_) | (with_reducible refine Below.setCell ?_ ?_ _) | (with_reducible refine below_two ?_ (by with_reducible assumption)) | go_size))⟩
  by_cases h2 : 2048 < s
  · clear hn h
    go_enter Try.func9, Try.ntmps9
    go_wp2
    exact bodyPost_ret (v := .tuple #[.agg #[.int .i64 0, .int .i64 0, .int .i64 0, .int .i64 0, .int .i64 0, .int .i64 0, .int .i64 0], .int .i64 2]) (by simp [results, Try.results9, go_sem]) rfl ⟨rfl, by (repeat' (first | (with_reducible exact Below.refl _ _) | (with_reducible assumption) | (with_reducible refine Below.alloc ?_ ?_ _) | (with_reducible refine below_drewN ?_ _) | (with_reducible refine Below.drew ?_) | (with_reducible refine Below.setCell ?_ ?_ _) | (with_reducible refine below_two ?_ (by with_reducible assumption)) | go_size))⟩
  have hk : alB a = false := by
    cases hx : alB a
    · rfl
    · exact absurd ⟨by omega, by omega, hx⟩ hn
  clear hn h
  go_enter Try.func9, Try.ntmps9
  go_wp2_with (first | (go_at_call 18; refine (aligned_no a hk _).mono ?_; rintro e w1 ⟨rfl, rfl⟩))
  exact bodyPost_ret (v := .tuple #[.agg #[.int .i64 0, .int .i64 0, .int .i64 0, .int .i64 0, .int .i64 0, .int .i64 0, .int .i64 0], .int .i64 2]) (by simp [results, Try.results9, go_sem]) rfl ⟨rfl, by (repeat' (first | (with_reducible exact Below.refl _ _) | (with_reducible assumption) | (with_reducible refine Below.alloc ?_ ?_ _) | (with_reducible refine below_drewN ?_ _) | (with_reducible refine Below.drew ?_) | (with_reducible refine Below.setCell ?_ ?_ _) | (with_reducible refine below_two ?_ (by with_reducible assumption)) | go_size))⟩

theorem refOf_any (s a : Int) (g : Bool) (w : World) : Calls Try.prog 9 #[.int .i64 s, .int .i64 a, .bool g] w fun e w' =>
    e = .returned (.tuple #[layV (ofF s a g).1, .int .i64 (ofF s a g).2]) ∧ Below w.heap.size w w' := by
  cases h : okL s a
  · rw [show ofF s a g = (lay0, 2) by rw [ofF, if_neg (by rw [h]; exact Bool.false_ne_true)]]
    exact refOf_no s a g h w
  · obtain ⟨h1, h2, h3⟩ := (okL_iff s a).1 h
    have hst : 1 ≤ (bodyOf s a g).st := by
      have h5 := up_bd (n := netOf s a g) (m := max 8 a) (by omega)
      have h6 := up_bd (n := 8) (m := a) (by omega)
      have h7 : 1 ≤ netOf s a g := by unfold netOf; split <;> omega
      exact Int.le_trans h7 h5.1
    rw [show ofF s a g = scan1 (bodyOf s a g) 4 0 by rw [ofF, if_pos h, scan_eq hst]]
    exact refOf_ok s a _ _ g h1 h2 (by omega) (by omega) ((alB_iff a).2 h3) rfl rfl _ (Lib.hid rfl) w

theorem of_at (s a : Int) (g : Bool) (sz al st off ord obj was e : Int) (h : ofF s a g = (⟨sz, al, st, off, ord, obj, was⟩, e)) (w : World) : Calls Try.prog 8 #[.int .i64 s, .int .i64 a, .bool g] w fun r w' =>
    r = .returned (.tuple #[.agg #[.int .i64 sz, .int .i64 al, .int .i64 st, .int .i64 off, .int .i64 ord, .int .i64 obj, .int .i64 was], .int .i64 e]) ∧ Below w.heap.size w w' := by
  have := of_any s a g w
  rw [h] at this
  exact this
theorem refOf_at (s a : Int) (g : Bool) (sz al st off ord obj was e : Int) (h : ofF s a g = (⟨sz, al, st, off, ord, obj, was⟩, e)) (w : World) : Calls Try.prog 9 #[.int .i64 s, .int .i64 a, .bool g] w fun r w' =>
    r = .returned (.tuple #[.agg #[.int .i64 sz, .int .i64 al, .int .i64 st, .int .i64 off, .int .i64 ord, .int .i64 obj, .int .i64 was], .int .i64 e]) ∧ Below w.heap.size w w' := by
  have := refOf_any s a g w
  rw [h] at this
  exact this

set_option maxHeartbeats 1000000 in
theorem works_any (w : World) : Calls Try.prog 10 #[] w fun e w' => e = .returned (.bool true) ∧ Below w.heap.size w w' := by
  have a1 := Lib.hid (show ofF 24 8 false = (⟨24, 8, 24, 0, 0, 10, 16⟩, 0) by decide +kernel)
  have a2 := Lib.hid (show ofF 100 8 false = (⟨100, 8, 104, 0, 2, 9, 88⟩, 0) by decide +kernel)
  have a3 := Lib.hid (show ofF 8 1 true = (⟨8, 1, 24, 8, 0, 10, 16⟩, 0) by decide +kernel)
  have a4 := Lib.hid (show ofF 2048 1 true = (⟨0, 0, 0, 0, 0, 0, 0⟩, 150) by decide +kernel)
  have a5 := Lib.hid (show ofF 0 1 false = (⟨0, 0, 0, 0, 0, 0, 0⟩, 2) by decide +kernel)
  have a6 := Lib.hid (show ofF 8 3 false = (⟨0, 0, 0, 0, 0, 0, 0⟩, 2) by decide +kernel)
  go_enter Try.func10, Try.ntmps10
  go_wp2_with (first | (go_at_call 8; with_reducible refine (of_at 24 8 false _ _ _ _ _ _ _ _ a1.out _).mono ?_; rintro e w1 ⟨rfl, hb1⟩) | (go_at_call 8; with_reducible refine (of_at 100 8 false _ _ _ _ _ _ _ _ a2.out _).mono ?_; rintro e w2 ⟨rfl, hb2⟩; have p1 := (Blk.new w1 23 _).below hb2) | (go_at_call 8; with_reducible refine (of_at 8 1 true _ _ _ _ _ _ _ _ a3.out _).mono ?_; rintro e w3 ⟨rfl, hb3⟩; have p1 := (p1.alloc _).below hb3; have p2 := (Blk.new w2 23 _).below hb3) | (go_at_call 8; with_reducible refine (of_at 2048 1 true _ _ _ _ _ _ _ _ a4.out _).mono ?_; rintro e w4 ⟨rfl, hb4⟩; have p1 := (p1.alloc _).below hb4; have p2 := (p2.alloc _).below hb4; have p3 := (Blk.new w3 23 _).below hb4) | (go_at_call 8; with_reducible refine (of_at 0 1 false _ _ _ _ _ _ _ _ a5.out _).mono ?_; rintro e w5 ⟨rfl, hb5⟩; have p1 := (p1.alloc _).below hb5; have p2 := (p2.alloc _).below hb5; have p3 := (p3.alloc _).below hb5) | (go_at_call 8; with_reducible refine (of_at 8 3 false _ _ _ _ _ _ _ _ a6.out _).mono ?_; rintro e w6 ⟨rfl, hb6⟩; have p1 := (p1.alloc _).below hb6; have p2 := (p2.alloc _).below hb6; have p3 := (p3.alloc _).below hb6; have n1 := p1.lt; have n2 := p2.lt; have n3 := p3.lt; have c1 := p1.cell; have c2 := p2.cell; have c3 := p3.cell))
  have z1 := hb1.size
  have z2 := hb2.size
  have z3 := hb3.size
  have z4 := hb4.size
  have z5 := hb5.size
  have z6 := hb6.size
  rw [World.size_alloc] at z2 z3 z4 z5 z6
  go_ret
  exact ⟨rfl, by (repeat' (first | (with_reducible exact Below.refl _ _) | (with_reducible assumption) | (with_reducible refine Below.alloc ?_ ?_ _) | (with_reducible refine below_drewN ?_ _) | (with_reducible refine Below.drew ?_) | (with_reducible refine Below.setCell ?_ ?_ _) | (with_reducible refine below_two ?_ (by with_reducible assumption)) | go_size))⟩

end Go.Proofs.Ytibpaomkaknbhaa
