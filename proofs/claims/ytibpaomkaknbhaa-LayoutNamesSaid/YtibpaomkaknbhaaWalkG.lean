/-
  The walks of At and Index (of both texts).
-/
import Derived.Test.YtibpaomkaknbhaaWalkF
namespace Go.Proofs.Ytibpaomkaknbhaa
open Go.RowKit

theorem may_at (sz al st off ord obj was : Int) (m : Bool) (h : mayF ⟨sz, al, st, off, ord, obj, was⟩ = m) (w : World) : Calls Try.prog 21 #[.agg #[.int .i64 sz, .int .i64 al, .int .i64 st, .int .i64 off, .int .i64 ord, .int .i64 obj, .int .i64 was]] w fun e w' =>
    e = .returned (.bool m) ∧ Below w.heap.size w w' := h ▸ may_any ⟨sz, al, st, off, ord, obj, was⟩ w
theorem refMay_at (sz al st off ord obj was : Int) (m : Bool) (h : mayF ⟨sz, al, st, off, ord, obj, was⟩ = m) (w : World) : Calls Try.prog 22 #[.agg #[.int .i64 sz, .int .i64 al, .int .i64 st, .int .i64 off, .int .i64 ord, .int .i64 obj, .int .i64 was]] w fun e w' =>
    e = .returned (.bool m) ∧ Below w.heap.size w w' := h ▸ refMay_any ⟨sz, al, st, off, ord, obj, was⟩ w

theorem ix_hit {l : Lay} {k : Nat} {i : Int} (h : atF l k = (i, 0)) : ixF l i = ((k : Int), true) := by
  unfold atF at h
  by_cases hm : mayF l = true
  · rw [if_pos hm] at h
    by_cases hk : 0 ≤ (k : Int) ∧ (k : Int) < l.obj
    · rw [if_pos hk] at h
      have hi : (k : Int) * l.st + l.off = i := by injection h
      have hst := (may_is hm).st1
      have hoff := (may_is hm).off1
      have hd : i - l.off = (k : Int) * l.st := by omega
      have hq : (i - l.off) / l.st = k := by rw [hd, Int.mul_ediv_cancel _ (by omega)]
      have h0 : 0 ≤ (k : Int) * l.st := Int.mul_nonneg hk.1 (by omega)
      unfold ixF
      rw [if_pos ⟨hm, by omega, by rw [hd, Int.mul_emod_left], by rw [hq]; exact hk.2⟩, hq]
    · rw [if_neg hk] at h
      simp at h
  · rw [if_neg hm] at h
    simp at h
theorem ix_none {l : Lay} {i : Int} (h : ∀ j : Nat, j < 16 → ¬ atF l j = (i, 0)) : ixF l i = (0, false) := by
  unfold ixF
  rw [if_neg]
  rintro ⟨hm, h1, h2, h3⟩
  have hI := may_is hm
  have hst := hI.st1
  have hobj := hI.obj
  have h4 : 0 ≤ (i - l.off) / l.st := Int.ediv_nonneg (by omega) (by omega)
  obtain ⟨j, hj⟩ := Int.eq_ofNat_of_zero_le h4
  refine h j (by omega) ?_
  have h5 := Int.mul_ediv_add_emod (i - l.off) l.st
  rw [h2, hj, Int.mul_comm] at h5
  unfold atF
  rw [if_pos hm, if_pos ⟨by omega, by omega⟩]
  exact Prod.ext (by show (j : Int) * l.st + l.off = i; omega) rfl

theorem mul_bd {i n st : Int} (h0 : 0 ≤ i) (h1 : i < n) (hn : n ≤ 16) (h2 : 8 ≤ st) (h3 : st ≤ 3000) : 0 ≤ i * st ∧ i * st ≤ 48000 := by
  have a1 : 0 ≤ i * st := Int.mul_nonneg h0 (by omega)
  have a2 : i * st ≤ 16 * st := Int.mul_le_mul_of_nonneg_right (by omega) (by omega)
  omega

theorem at_any (l : Lay) (i : Int) (w : World) : Calls Try.prog 12 #[.agg #[.int .i64 l.sz, .int .i64 l.al, .int .i64 l.st, .int .i64 l.off, .int .i64 l.ord, .int .i64 l.obj, .int .i64 l.was], .int .i64 i] w fun e w' =>
    e = .returned (.tuple #[.int .i64 (atF l i).1, .int .i64 (atF l i).2]) ∧ Below w.heap.size w w' := by
  obtain ⟨sz, al, st, off, ord, obj, was⟩ := l
  cases hm : mayF ⟨sz, al, st, off, ord, obj, was⟩
  · rw [show atF ⟨sz, al, st, off, ord, obj, was⟩ i = (0, 2) by unfold atF; rw [hm]; rfl]
    have HM := Lib.hid hm
    clear hm
    go_enter Try.func12, Try.ntmps12
    go_wp2_with (first | (go_at_call 21; with_reducible refine (may_at _ _ _ _ _ _ _ _ HM.out _).mono ?_; rintro e w1 ⟨rfl, hb1⟩; have p1 := (Blk.new w 23 _).below hb1; have n1 := p1.lt; have c1 := p1.cell))
    have z1 := hb1.size
    rw [World.size_alloc] at z1
    go_ret2
    exact ⟨rfl, by (repeat' (first | (with_reducible exact Below.refl _ _) | (with_reducible assumption) | (with_reducible refine Below.alloc ?_ ?_ _) | (with_reducible refine below_drewN ?_ _) | (with_reducible refine Below.drew ?_) | (with_reducible refine Below.setCell ?_ ?_ _) | (with_reducible refine below_two ?_ (by with_reducible assumption)) | go_size))⟩
  · have hI := may_is hm
    have hst : 8 ≤ st ∧ st ≤ 3000 := hI.st1
    have hoff : 0 ≤ off ∧ off ≤ 100 := hI.off1
    have hobj : 1 ≤ obj ∧ obj ≤ 16 := hI.obj
    have HM := Lib.hid hm
    by_cases h1 : i < 0
    · rw [show atF ⟨sz, al, st, off, ord, obj, was⟩ i = (0, 9) by unfold atF; rw [if_pos hm, if_neg (by omega)]]
      clear hm hI
      go_enter Try.func12, Try.ntmps12
      go_wp2_with (first | (go_at_call 21; with_reducible refine (may_at _ _ _ _ _ _ _ _ HM.out _).mono ?_; rintro e w1 ⟨rfl, hb1⟩; have p1 := (Blk.new w 23 _).below hb1; have n1 := p1.lt; have c1 := p1.cell))
      have z1 := hb1.size
      rw [World.size_alloc] at z1
      go_ret2
      exact ⟨rfl, by (repeat' (first | (with_reducible exact Below.refl _ _) | (with_reducible assumption) | (with_reducible refine Below.alloc ?_ ?_ _) | (with_reducible refine below_drewN ?_ _) | (with_reducible refine Below.drew ?_) | (with_reducible refine Below.setCell ?_ ?_ _) | (with_reducible refine below_two ?_ (by with_reducible assumption)) | go_size))⟩
    · by_cases h2 : obj ≤ i
      · rw [show atF ⟨sz, al, st, off, ord, obj, was⟩ i = (0, 9) by unfold atF; rw [if_pos hm, if_neg (fun h => absurd (show i < obj from h.2) (by omega))]]
        clear hm hI
        go_enter Try.func12, Try.ntmps12
        go_wp2_with (first | (go_at_call 21; with_reducible refine (may_at _ _ _ _ _ _ _ _ HM.out _).mono ?_; rintro e w1 ⟨rfl, hb1⟩; have p1 := (Blk.new w 23 _).below hb1; have n1 := p1.lt; have c1 := p1.cell))
        have z1 := hb1.size
        rw [World.size_alloc] at z1
        go_ret2
        exact ⟨rfl, by (repeat' (first | (with_reducible exact Below.refl _ _) | (with_reducible assumption) | (with_reducible refine Below.alloc ?_ ?_ _) | (with_reducible refine below_drewN ?_ _) | (with_reducible refine Below.drew ?_) | (with_reducible refine Below.setCell ?_ ?_ _) | (with_reducible refine below_two ?_ (by with_reducible assumption)) | go_size))⟩
      · rw [show atF ⟨sz, al, st, off, ord, obj, was⟩ i = (i * st + off, 0) by unfold atF; rw [if_pos hm, if_pos ⟨by omega, show i < obj by omega⟩]]
        obtain ⟨hp0, hp1⟩ := mul_bd (i := i) (n := obj) (st := st) (by omega) (by omega) (by omega) hst.1 hst.2
        clear hm hI
        go_enter Try.func12, Try.ntmps12
        go_wp2_with (first | (go_at_call 21; with_reducible refine (may_at _ _ _ _ _ _ _ _ HM.out _).mono ?_; rintro e w1 ⟨rfl, hb1⟩; have p1 := (Blk.new w 23 _).below hb1; have n1 := p1.lt; have c1 := p1.cell))
        have z1 := hb1.size
        rw [World.size_alloc] at z1
        go_ret2
        exact ⟨rfl, by (repeat' (first | (with_reducible exact Below.refl _ _) | (with_reducible assumption) | (with_reducible refine Below.alloc ?_ ?_ _) | (with_reducible refine below_drewN ?_ _) | (with_reducible refine Below.drew ?_) | (with_reducible refine Below.setCell ?_ ?_ _) | (with_reducible refine below_two ?_ (by with_reducible assumption)) | go_size))⟩

theorem refAt_any (l : Lay) (i : Int) (w : World) : Calls Try.prog 13 #[.agg #[.int .i64 l.sz, .int .i64 l.al, .int .i64 l.st, .int .i64 l.off, .int .i64 l.ord, .int .i64 l.obj, .int .i64 l.was], .int .i64 i] w fun e w' =>
    e = .returned (.tuple #[.int .i64 (atF l i).1, .int .i64 (atF l i).2]) ∧ Below w.heap.size w w' := by
  obtain ⟨sz, al, st, off, ord, obj, was⟩ := l
  cases hm : mayF ⟨sz, al, st, off, ord, obj, was⟩
  · rw [show atF ⟨sz, al, st, off, ord, obj, was⟩ i = (0, 2) by unfold atF; rw [hm]; rfl]
    have HM := Lib.hid hm
    clear hm
    go_enter Try.func13, Try.ntmps13
    go_wp2_with (first | (go_at_call 22; with_reducible refine (refMay_at _ _ _ _ _ _ _ _ HM.out _).mono ?_; rintro e w1 ⟨rfl, hb1⟩; have p1 := (Blk.new w 23 _).below hb1; have n1 := p1.lt; have c1 := p1.cell))
    have z1 := hb1.size
    rw [World.size_alloc] at z1
    go_ret2
    exact ⟨rfl, by (repeat' (first | (with_reducible exact Below.refl _ _) | (with_reducible assumption) | (with_reducible refine Below.alloc ?_ ?_ _) | (with_reducible refine below_drewN ?_ _) | (with_reducible refine Below.drew ?_) | (with_reducible refine Below.setCell ?_ ?_ _) | (with_reducible refine below_two ?_ (by with_reducible assumption)) | go_size))⟩
  · have hI := may_is hm
    have hst : 8 ≤ st ∧ st ≤ 3000 := hI.st1
    have hoff : 0 ≤ off ∧ off ≤ 100 := hI.off1
    have hobj : 1 ≤ obj ∧ obj ≤ 16 := hI.obj
    have HM := Lib.hid hm
    by_cases h1 : i < 0
    · rw [show atF ⟨sz, al, st, off, ord, obj, was⟩ i = (0, 9) by unfold atF; rw [if_pos hm, if_neg (by omega)]]
      clear hm hI
      go_enter Try.func13, Try.ntmps13
      go_wp2_with (first | (go_at_call 22; with_reducible refine (refMay_at _ _ _ _ _ _ _ _ HM.out _).mono ?_; rintro e w1 ⟨rfl, hb1⟩; have p1 := (Blk.new w 23 _).below hb1; have n1 := p1.lt; have c1 := p1.cell))
      have z1 := hb1.size
      rw [World.size_alloc] at z1
      go_ret2
      exact ⟨rfl, by (repeat' (first | (with_reducible exact Below.refl _ _) | (with_reducible assumption) | (with_reducible refine Below.alloc ?_ ?_ _) | (with_reducible refine below_drewN ?_ _) | (with_reducible refine Below.drew ?_) | (with_reducible refine Below.setCell ?_ ?_ _) | (with_reducible refine below_two ?_ (by with_reducible assumption)) | go_size))⟩
    · by_cases h2 : obj ≤ i
      · rw [show atF ⟨sz, al, st, off, ord, obj, was⟩ i = (0, 9) by unfold atF; rw [if_pos hm, if_neg (fun h => absurd (show i < obj from h.2) (by omega))]]
        clear hm hI
        go_enter Try.func13, Try.ntmps13
        go_wp2_with (first | (go_at_call 22; with_reducible refine (refMay_at _ _ _ _ _ _ _ _ HM.out _).mono ?_; rintro e w1 ⟨rfl, hb1⟩; have p1 := (Blk.new w 23 _).below hb1; have n1 := p1.lt; have c1 := p1.cell))
        have z1 := hb1.size
        rw [World.size_alloc] at z1
        go_ret2
        exact ⟨rfl, by (repeat' (first | (with_reducible exact Below.refl _ _) | (with_reducible assumption) | (with_reducible refine Below.alloc ?_ ?_ _) | (with_reducible refine below_drewN ?_ _) | (with_reducible refine Below.drew ?_) | (with_reducible refine Below.setCell ?_ ?_ _) | (with_reducible refine below_two ?_ (by with_reducible assumption)) | go_size))⟩
      · rw [show atF ⟨sz, al, st, off, ord, obj, was⟩ i = (i * st + off, 0) by unfold atF; rw [if_pos hm, if_pos ⟨by omega, show i < obj by omega⟩]]
        obtain ⟨hp0, hp1⟩ := mul_bd (i := i) (n := obj) (st := st) (by omega) (by omega) (by omega) hst.1 hst.2
        clear hm hI
        go_enter Try.func13, Try.ntmps13
        go_wp2_with (first | (go_at_call 22; with_reducible refine (refMay_at _ _ _ _ _ _ _ _ HM.out _).mono ?_; rintro e w1 ⟨rfl, hb1⟩; have p1 := (Blk.new w 23 _).below hb1; have n1 := p1.lt; have c1 := p1.cell))
        have z1 := hb1.size
        rw [World.size_alloc] at z1
        go_ret2
        exact ⟨rfl, by (repeat' (first | (with_reducible exact Below.refl _ _) | (with_reducible assumption) | (with_reducible refine Below.alloc ?_ ?_ _) | (with_reducible refine below_drewN ?_ _) | (with_reducible refine Below.drew ?_) | (with_reducible refine Below.setCell ?_ ?_ _) | (with_reducible refine below_two ?_ (by with_reducible assumption)) | go_size))⟩

set_option maxHeartbeats 2000000 in
theorem index_any (l : Lay) (i : Int) (hi : i ≤ 9223372036854775807) (w : World) : Calls Try.prog 14 #[.agg #[.int .i64 l.sz, .int .i64 l.al, .int .i64 l.st, .int .i64 l.off, .int .i64 l.ord, .int .i64 l.obj, .int .i64 l.was], .int .i64 i] w fun e w' =>
    e = .returned (.tuple #[.int .i64 (ixF l i).1, .bool (ixF l i).2]) ∧ Below w.heap.size w w' := by
  obtain ⟨sz, al, st, off, ord, obj, was⟩ := l
  cases hm : mayF ⟨sz, al, st, off, ord, obj, was⟩
  · rw [show ixF ⟨sz, al, st, off, ord, obj, was⟩ i = (0, false) by unfold ixF; rw [if_neg (by rw [hm]; exact fun h => Bool.false_ne_true h.1)]]
    have HM := Lib.hid hm
    clear hm
    go_enter Try.func14, Try.ntmps14
    go_wp2_with (first | (go_at_call 21; with_reducible refine (may_at _ _ _ _ _ _ _ _ HM.out _).mono ?_; rintro e w1 ⟨rfl, hb1⟩; have p1 := (Blk.new w 23 _).below hb1; have n1 := p1.lt; have c1 := p1.cell))
    have z1 := hb1.size
    rw [World.size_alloc] at z1
    go_ret2
    exact ⟨rfl, by (repeat' (first | (with_reducible exact Below.refl _ _) | (with_reducible assumption) | (with_reducible refine Below.alloc ?_ ?_ _) | (with_reducible refine below_drewN ?_ _) | (with_reducible refine Below.drew ?_) | (with_reducible refine Below.setCell ?_ ?_ _) | (with_reducible refine below_two ?_ (by with_reducible assumption)) | go_size))⟩
  · have hI := may_is hm
    have hst : 8 ≤ st ∧ st ≤ 3000 := hI.st1
    have hoff : 0 ≤ off ∧ off ≤ 100 := hI.off1
    have hobj : 1 ≤ obj ∧ obj ≤ 16 := hI.obj
    have HM := Lib.hid hm
    by_cases h1 : i < off
    · rw [show ixF ⟨sz, al, st, off, ord, obj, was⟩ i = (0, false) by unfold ixF; rw [if_neg (fun h => absurd (show off ≤ i from h.2.1) (by omega))]]
      clear hm hI
      go_enter Try.func14, Try.ntmps14
      go_wp2_with (first | (go_at_call 21; with_reducible refine (may_at _ _ _ _ _ _ _ _ HM.out _).mono ?_; rintro e w1 ⟨rfl, hb1⟩; have p1 := (Blk.new w 23 _).below hb1; have n1 := p1.lt; have c1 := p1.cell))
      have z1 := hb1.size
      rw [World.size_alloc] at z1
      go_ret2
      exact ⟨rfl, by (repeat' (first | (with_reducible exact Below.refl _ _) | (with_reducible assumption) | (with_reducible refine Below.alloc ?_ ?_ _) | (with_reducible refine below_drewN ?_ _) | (with_reducible refine Below.drew ?_) | (with_reducible refine Below.setCell ?_ ?_ _) | (with_reducible refine below_two ?_ (by with_reducible assumption)) | go_size))⟩
    · have hd0 : 0 ≤ i - off := by omega
      have hd1 : i - off ≤ 9223372036854775807 := by omega
      have hq0 : 0 ≤ (i - off) / st := Int.ediv_nonneg hd0 (by omega)
      have hq1 : (i - off) / st ≤ i - off := Int.ediv_le_self _ hd0
      by_cases h2 : (i - off) % st = 0
      · by_cases h3 : (i - off) / st < obj
        · rw [show ixF ⟨sz, al, st, off, ord, obj, was⟩ i = ((i - off) / st, true) by unfold ixF; rw [if_pos ⟨hm, show off ≤ i by omega, h2, h3⟩]]
          clear hm hI
          go_enter Try.func14, Try.ntmps14
          go_wp2_with (first | (go_at_call 21; with_reducible refine (may_at _ _ _ _ _ _ _ _ HM.out _).mono ?_; rintro e w1 ⟨rfl, hb1⟩; have p1 := (Blk.new w 23 _).below hb1; have n1 := p1.lt; have c1 := p1.cell))
          have z1 := hb1.size
          rw [World.size_alloc] at z1
          go_ret2
          exact ⟨rfl, by (repeat' (first | (with_reducible exact Below.refl _ _) | (with_reducible assumption) | (with_reducible refine Below.alloc ?_ ?_ _) | (with_reducible refine below_drewN ?_ _) | (with_reducible refine Below.drew ?_) | (with_reducible refine Below.setCell ?_ ?_ _) | (with_reducible refine below_two ?_ (by with_reducible assumption)) | go_size))⟩
        · rw [show ixF ⟨sz, al, st, off, ord, obj, was⟩ i = (0, false) by unfold ixF; rw [if_neg (fun h => absurd (show (i - off) / st < obj from h.2.2.2) h3)]]
          clear hm hI
          go_enter Try.func14, Try.ntmps14
          go_wp2_with (first | (go_at_call 21; with_reducible refine (may_at _ _ _ _ _ _ _ _ HM.out _).mono ?_; rintro e w1 ⟨rfl, hb1⟩; have p1 := (Blk.new w 23 _).below hb1; have n1 := p1.lt; have c1 := p1.cell))
          have z1 := hb1.size
          rw [World.size_alloc] at z1
          go_ret2
          exact ⟨rfl, by (repeat' (first | (with_reducible exact Below.refl _ _) | (with_reducible assumption) | (with_reducible refine Below.alloc ?_ ?_ _) | (with_reducible refine below_drewN ?_ _) | (with_reducible refine Below.drew ?_) | (with_reducible refine Below.setCell ?_ ?_ _) | (with_reducible refine below_two ?_ (by with_reducible assumption)) | go_size))⟩
      · rw [show ixF ⟨sz, al, st, off, ord, obj, was⟩ i = (0, false) by unfold ixF; rw [if_neg (fun h => absurd (show (i - off) % st = 0 from h.2.2.1) h2)]]
        have h2' : ((i - off) % st != 0) = true := by rw [bne_iff_ne]; exact h2
        clear h2
        clear hm hI
        go_enter Try.func14, Try.ntmps14
        go_wp2_with (first | (go_at_call 21; with_reducible refine (may_at _ _ _ _ _ _ _ _ HM.out _).mono ?_; rintro e w1 ⟨rfl, hb1⟩; have p1 := (Blk.new w 23 _).below hb1; have n1 := p1.lt; have c1 := p1.cell))
        have z1 := hb1.size
        rw [World.size_alloc] at z1
        go_ret2
        exact ⟨rfl, by (repeat' (first | (with_reducible exact Below.refl _ _) | (with_reducible assumption) | (with_reducible refine Below.alloc ?_ ?_ _) | (with_reducible refine below_drewN ?_ _) | (with_reducible refine Below.drew ?_) | (with_reducible refine Below.setCell ?_ ?_ _) | (with_reducible refine below_two ?_ (by with_reducible assumption)) | go_size))⟩

theorem refAt_at (sz al st off ord obj was i v e : Int) (h : atF ⟨sz, al, st, off, ord, obj, was⟩ i = (v, e)) (w : World) : Calls Try.prog 13 #[.agg #[.int .i64 sz, .int .i64 al, .int .i64 st, .int .i64 off, .int .i64 ord, .int .i64 obj, .int .i64 was], .int .i64 i] w fun r w' =>
    r = .returned (.tuple #[.int .i64 v, .int .i64 e]) ∧ Below w.heap.size w w' := by
  have := refAt_any ⟨sz, al, st, off, ord, obj, was⟩ i w
  rw [h] at this
  exact this
theorem at_at (sz al st off ord obj was i v e : Int) (h : atF ⟨sz, al, st, off, ord, obj, was⟩ i = (v, e)) (w : World) : Calls Try.prog 12 #[.agg #[.int .i64 sz, .int .i64 al, .int .i64 st, .int .i64 off, .int .i64 ord, .int .i64 obj, .int .i64 was], .int .i64 i] w fun r w' =>
    r = .returned (.tuple #[.int .i64 v, .int .i64 e]) ∧ Below w.heap.size w w' := by
  have := at_any ⟨sz, al, st, off, ord, obj, was⟩ i w
  rw [h] at this
  exact this
theorem index_at (sz al st off ord obj was i v : Int) (b : Bool) (hi : i ≤ 9223372036854775807) (h : ixF ⟨sz, al, st, off, ord, obj, was⟩ i = (v, b)) (w : World) : Calls Try.prog 14 #[.agg #[.int .i64 sz, .int .i64 al, .int .i64 st, .int .i64 off, .int .i64 ord, .int .i64 obj, .int .i64 was], .int .i64 i] w fun r w' =>
    r = .returned (.tuple #[.int .i64 v, .bool b]) ∧ Below w.heap.size w w' := by
  have := index_any ⟨sz, al, st, off, ord, obj, was⟩ i hi w
  rw [h] at this
  exact this

set_option maxHeartbeats 2000000 in
theorem refIndex_any (l : Lay) (i : Int) (w : World) : Calls Try.prog 15 #[.agg #[.int .i64 l.sz, .int .i64 l.al, .int .i64 l.st, .int .i64 l.off, .int .i64 l.ord, .int .i64 l.obj, .int .i64 l.was], .int .i64 i] w fun e w' =>
    e = .returned (.tuple #[.int .i64 (ixF l i).1, .bool (ixF l i).2]) ∧ Below w.heap.size w w' := by
  obtain ⟨R, hR⟩ : ∃ R, ixF l i = R := ⟨_, rfl⟩
  rw [hR]
  have HR := Lib.hid hR
  clear hR
  obtain ⟨sz, al, st, off, ord, obj, was⟩ := l
  go_enter Try.func15, Try.ntmps15
  go_wp2
  go_loopw [6] (fun j wr => ∃ k : Nat, k ≤ 16 ∧ j = .int .i64 k ∧ Hid (∀ j : Nat, j < k → ¬ atF ⟨sz, al, st, off, ord, obj, was⟩ j = (i, 0)) ∧ Blk wr w.heap.size 23 #[.int .i64 sz, .int .i64 al, .int .i64 st, .int .i64 off, .int .i64 ord, .int .i64 obj, .int .i64 was] ∧ Below w.heap.size w wr) (fun j _ => 16 - (intOf j).toNat)
  case atStart => exact ⟨0, by omega, rfl, Lib.hid (fun j hj => absurd hj (Nat.not_lt_zero j)), Blk.new w 23 _, by (repeat' (first | (with_reducible exact Below.refl _ _) | (with_reducible assumption) | (with_reducible refine Below.alloc ?_ ?_ _) | (with_reducible refine below_drewN ?_ _) | (with_reducible refine Below.drew ?_) | (with_reducible refine Below.setCell ?_ ?_ _) | (with_reducible refine below_two ?_ (by with_reducible assumption)) | go_size))⟩
  case round =>
    obtain ⟨k, hk, rfl, HK, p1, hw⟩ := hrel
    have hz := hw.size
    have n1 := p1.lt
    have c1 := p1.cell
    by_cases hlt : k < 16
    · rcases hx : atF ⟨sz, al, st, off, ord, obj, was⟩ k with ⟨v, e⟩
      have HX := Lib.hid hx
      clear hx
      by_cases hv : v = i ∧ e = 0
      · obtain ⟨rfl, rfl⟩ := hv
        have HN := Lib.hid (ix_hit HX.out)
        go_wp2_with (first | (go_at_call 13; with_reducible refine (refAt_at _ _ _ _ _ _ _ _ _ _ HX.out _).mono ?_; rintro e w1 ⟨rfl, hb1⟩))
        go_ret2
        exact ⟨by rw [← HR.out, HN.out]; (first | done | rfl), by (repeat' (first | (with_reducible exact Below.refl _ _) | (with_reducible assumption) | (with_reducible refine Below.alloc ?_ ?_ _) | (with_reducible refine below_drewN ?_ _) | (with_reducible refine Below.drew ?_) | (with_reducible refine Below.setCell ?_ ?_ _) | (with_reducible refine below_two ?_ (by with_reducible assumption)) | go_size))⟩
      · have HN : Hid (∀ j : Nat, j < k + 1 → ¬ atF ⟨sz, al, st, off, ord, obj, was⟩ j = (i, 0)) := Lib.hid (fun j hj h => by
          rcases Nat.lt_or_ge j k with h' | h'
          · exact HK.out j h' h
          · have : j = k := by omega
            subst this
            rw [HX.out] at h
            simp only [Prod.mk.injEq] at h
            exact hv h)
        by_cases he : e = 0
        · subst he
          have hv' : ¬ v = i := fun h => hv ⟨h, rfl⟩
          clear hv
          go_wp2_with (first | (go_at_call 13; with_reducible refine (refAt_at _ _ _ _ _ _ _ _ _ _ HX.out _).mono ?_; rintro e w1 ⟨rfl, hb1⟩))
          go_roundw
          case rel => exact ⟨k + 1, by omega, by go_num, HN, p1.below hb1, by (repeat' (first | (with_reducible exact Below.refl _ _) | (with_reducible assumption) | (with_reducible refine Below.alloc ?_ ?_ _) | (with_reducible refine below_drewN ?_ _) | (with_reducible refine Below.drew ?_) | (with_reducible refine Below.setCell ?_ ?_ _) | (with_reducible refine below_two ?_ (by with_reducible assumption)) | go_size))⟩
          case measure => simp [intOf]; omega
        · clear hv
          go_wp2_with (first | (go_at_call 13; with_reducible refine (refAt_at _ _ _ _ _ _ _ _ _ _ HX.out _).mono ?_; rintro e w1 ⟨rfl, hb1⟩))
          go_roundw
          case rel => exact ⟨k + 1, by omega, by go_num, HN, p1.below hb1, by (repeat' (first | (with_reducible exact Below.refl _ _) | (with_reducible assumption) | (with_reducible refine Below.alloc ?_ ?_ _) | (with_reducible refine below_drewN ?_ _) | (with_reducible refine Below.drew ?_) | (with_reducible refine Below.setCell ?_ ?_ _) | (with_reducible refine below_two ?_ (by with_reducible assumption)) | go_size))⟩
          case measure => simp [intOf]; omega
    · have hk16 : k = 16 := by omega
      subst hk16
      have HN := Lib.hid (ix_none HK.out)
      go_wp2
      go_ret2
      exact ⟨by rw [← HR.out, HN.out]; (first | done | rfl), by (repeat' (first | (with_reducible exact Below.refl _ _) | (with_reducible assumption) | (with_reducible refine Below.alloc ?_ ?_ _) | (with_reducible refine below_drewN ?_ _) | (with_reducible refine Below.drew ?_) | (with_reducible refine Below.setCell ?_ ?_ _) | (with_reducible refine below_two ?_ (by with_reducible assumption)) | go_size))⟩

end Go.Proofs.Ytibpaomkaknbhaa
