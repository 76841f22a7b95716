/-
  The walks of may (of both texts).
-/
import Derived.Test.YtibpaomkaknbhaaWalkE
import Derived.Test.YtibpaomkaknbhaaPlainB
namespace Go.Proofs.Ytibpaomkaknbhaa
open Go.RowKit

theorem may_any (l : Lay) (w : World) : Calls Try.prog 21 #[.agg #[.int .i64 l.sz, .int .i64 l.al, .int .i64 l.st, .int .i64 l.off, .int .i64 l.ord, .int .i64 l.obj, .int .i64 l.was]] w fun e w' =>
    e = .returned (.bool (mayF l)) ∧ Below w.heap.size w w' := by
  cases hm : mayF l
  · rcases hx : ofF l.sz l.al (decide (0 < l.off)) with ⟨⟨sz, al, st, off, ord, obj, was⟩, e⟩
    have HX := Lib.hid hx
    by_cases he : e = 0
    · subst he
      have hne : ¬ ((⟨sz, al, st, off, ord, obj, was⟩ : Lay) = l) := by
        intro h
        rw [(mayF_iff l).2 (by rw [hx, h])] at hm
        cases hm
      have HN := Lib.hid hne
      clear hx hm hne
      go_enter Try.func21, Try.ntmps21
      go_wp2_with (first | (go_at_call 8; with_reducible refine (of_at l.sz l.al (decide (0 < l.off)) _ _ _ _ _ _ _ _ HX.out _).mono ?_; rintro e w1 ⟨rfl, hb1⟩; have p1 := (Blk.new w 23 _).below hb1; have n1 := p1.lt; have c1 := p1.cell))
      all_goals (first | (exfalso; apply HN.out; cases l; simp only [Lay.mk.injEq]; exact ⟨by assumption, by assumption, by assumption, by assumption, by assumption, by assumption, by assumption⟩) | (have z1 := hb1.size; rw [World.size_alloc] at z1; go_ret; exact ⟨rfl, by (repeat' (first | (with_reducible exact Below.refl _ _) | (with_reducible assumption) | (with_reducible refine Below.alloc ?_ ?_ _) | (with_reducible refine below_drewN ?_ _) | (with_reducible refine Below.drew ?_) | (with_reducible refine Below.setCell ?_ ?_ _) | (with_reducible refine below_two ?_ (by with_reducible assumption)) | go_size))⟩))
    · clear hx hm
      go_enter Try.func21, Try.ntmps21
      go_wp2_with (first | (go_at_call 8; with_reducible refine (of_at l.sz l.al (decide (0 < l.off)) _ _ _ _ _ _ _ _ HX.out _).mono ?_; rintro e w1 ⟨rfl, hb1⟩; have p1 := (Blk.new w 23 _).below hb1; have n1 := p1.lt; have c1 := p1.cell))
      have z1 := hb1.size
      rw [World.size_alloc] at z1
      go_ret
      exact ⟨rfl, by (repeat' (first | (with_reducible exact Below.refl _ _) | (with_reducible assumption) | (with_reducible refine Below.alloc ?_ ?_ _) | (with_reducible refine below_drewN ?_ _) | (with_reducible refine Below.drew ?_) | (with_reducible refine Below.setCell ?_ ?_ _) | (with_reducible refine below_two ?_ (by with_reducible assumption)) | go_size))⟩
  · have hx := (mayF_iff l).1 hm
    have HX := Lib.hid hx
    clear hx hm
    obtain ⟨sz, al, st, off, ord, obj, was⟩ := l
    go_enter Try.func21, Try.ntmps21
    go_wp2_with (first | (go_at_call 8; with_reducible refine (of_at sz al (decide (0 < off)) _ _ _ _ _ _ _ _ HX.out _).mono ?_; rintro e w1 ⟨rfl, hb1⟩; have p1 := (Blk.new w 23 _).below hb1; have n1 := p1.lt; have c1 := p1.cell))
    have z1 := hb1.size
    rw [World.size_alloc] at z1
    go_ret
    exact ⟨rfl, by (repeat' (first | (with_reducible exact Below.refl _ _) | (with_reducible assumption) | (with_reducible refine Below.alloc ?_ ?_ _) | (with_reducible refine below_drewN ?_ _) | (with_reducible refine Below.drew ?_) | (with_reducible refine Below.setCell ?_ ?_ _) | (with_reducible refine below_two ?_ (by with_reducible assumption)) | go_size))⟩

set_option maxHeartbeats 4000000 in
theorem refMay_any (l : Lay) (w : World) : Calls Try.prog 22 #[.agg #[.int .i64 l.sz, .int .i64 l.al, .int .i64 l.st, .int .i64 l.off, .int .i64 l.ord, .int .i64 l.obj, .int .i64 l.was]] w fun e w' =>
    e = .returned (.bool (mayF l)) ∧ Below w.heap.size w w' := by
  have ht := may_two l
  rcases hx1 : ofF l.sz l.al false with ⟨⟨sz, al, st, off, ord, obj, was⟩, e⟩
  rcases hx2 : ofF l.sz l.al true with ⟨⟨sz', al', st', off', ord', obj', was'⟩, e'⟩
  rw [hx1, hx2] at ht
  generalize mayF l = m at ht ⊢
  obtain ⟨lsz, lal, lst, loff, lord, lobj, lwas⟩ := l
  simp only [] at hx1 hx2 ⊢
  have X1 := Lib.hid hx1
  have X2 := Lib.hid hx2
  clear hx1 hx2
  by_cases h1 : (⟨sz, al, st, off, ord, obj, was⟩ : Lay) = ⟨lsz, lal, lst, loff, lord, lobj, lwas⟩ ∧ e = 0
  · obtain ⟨h1, rfl⟩ := h1
    rw [h1] at ht X1
    have hm : m = true := ht.2 (Or.inl rfl)
    subst hm
    clear ht h1
    go_enter Try.func22, Try.ntmps22
    go_wp2_with (first | (go_at_call 9; with_reducible refine (refOf_at lsz lal false _ _ _ _ _ _ _ _ X1.out _).mono ?_; rintro e w1 ⟨rfl, hb1⟩; have p1 := (Blk.new w 23 _).below hb1; have n1 := p1.lt; have c1 := p1.cell) | (go_at_call 9; with_reducible refine (refOf_at lsz lal true _ _ _ _ _ _ _ _ X2.out _).mono ?_; rintro e w2 ⟨rfl, hb2⟩; have p1 := (p1.alloc _).below hb2; have n1 := p1.lt; have c1 := p1.cell; have p2 := (Blk.new w1 23 _).below hb2; have n2 := p2.lt; have c2 := p2.cell))
    all_goals (first | (have z1 := hb1.size; have z2 := hb2.size; rw [World.size_alloc] at z1 z2; go_ret; exact ⟨rfl, by (repeat' (first | (with_reducible exact Below.refl _ _) | (with_reducible assumption) | (with_reducible refine Below.alloc ?_ ?_ _) | (with_reducible refine below_drewN ?_ _) | (with_reducible refine Below.drew ?_) | (with_reducible refine Below.setCell ?_ ?_ _) | (with_reducible refine below_two ?_ (by with_reducible assumption)) | go_size))⟩))
  · by_cases h2 : (⟨sz', al', st', off', ord', obj', was'⟩ : Lay) = ⟨lsz, lal, lst, loff, lord, lobj, lwas⟩ ∧ e' = 0
    · obtain ⟨h2, rfl⟩ := h2
      rw [h2] at ht X2
      have hm : m = true := ht.2 (Or.inr rfl)
      subst hm
      clear ht h2
      by_cases he : e = 0
      · have N1 := Lib.hid (fun h => h1 ⟨h, he⟩)
        subst he
        clear h1
        go_enter Try.func22, Try.ntmps22
        go_wp2_with (first | (go_at_call 9; with_reducible refine (refOf_at lsz lal false _ _ _ _ _ _ _ _ X1.out _).mono ?_; rintro e w1 ⟨rfl, hb1⟩; have p1 := (Blk.new w 23 _).below hb1; have n1 := p1.lt; have c1 := p1.cell) | (go_at_call 9; with_reducible refine (refOf_at lsz lal true _ _ _ _ _ _ _ _ X2.out _).mono ?_; rintro e w2 ⟨rfl, hb2⟩; have p1 := (p1.alloc _).below hb2; have n1 := p1.lt; have c1 := p1.cell; have p2 := (Blk.new w1 23 _).below hb2; have n2 := p2.lt; have c2 := p2.cell))
        all_goals (first | (exfalso; apply N1.out; simp only [Lay.mk.injEq]; exact ⟨by omega, by omega, by omega, by omega, by omega, by omega, by omega⟩) | (have z1 := hb1.size; have z2 := hb2.size; rw [World.size_alloc] at z1 z2; go_ret; exact ⟨rfl, by (repeat' (first | (with_reducible exact Below.refl _ _) | (with_reducible assumption) | (with_reducible refine Below.alloc ?_ ?_ _) | (with_reducible refine below_drewN ?_ _) | (with_reducible refine Below.drew ?_) | (with_reducible refine Below.setCell ?_ ?_ _) | (with_reducible refine below_two ?_ (by with_reducible assumption)) | go_size))⟩))
      · clear h1
        go_enter Try.func22, Try.ntmps22
        go_wp2_with (first | (go_at_call 9; with_reducible refine (refOf_at lsz lal false _ _ _ _ _ _ _ _ X1.out _).mono ?_; rintro e w1 ⟨rfl, hb1⟩; have p1 := (Blk.new w 23 _).below hb1; have n1 := p1.lt; have c1 := p1.cell) | (go_at_call 9; with_reducible refine (refOf_at lsz lal true _ _ _ _ _ _ _ _ X2.out _).mono ?_; rintro e w2 ⟨rfl, hb2⟩; have p1 := (p1.alloc _).below hb2; have n1 := p1.lt; have c1 := p1.cell; have p2 := (Blk.new w1 23 _).below hb2; have n2 := p2.lt; have c2 := p2.cell))
        all_goals (first | (have z1 := hb1.size; have z2 := hb2.size; rw [World.size_alloc] at z1 z2; go_ret; exact ⟨rfl, by (repeat' (first | (with_reducible exact Below.refl _ _) | (with_reducible assumption) | (with_reducible refine Below.alloc ?_ ?_ _) | (with_reducible refine below_drewN ?_ _) | (with_reducible refine Below.drew ?_) | (with_reducible refine Below.setCell ?_ ?_ _) | (with_reducible refine below_two ?_ (by with_reducible assumption)) | go_size))⟩))
    · have hm : m = false := by
        cases m
        · rfl
        · rcases ht.1 rfl with h | h
          · simp only [Prod.mk.injEq] at h; exact absurd h h1
          · simp only [Prod.mk.injEq] at h; exact absurd h h2
      subst hm
      clear ht
      by_cases he : e = 0
      · have N1 := Lib.hid (fun h => h1 ⟨h, he⟩)
        by_cases he' : e' = 0
        · have N2 := Lib.hid (fun h => h2 ⟨h, he'⟩)
          subst he he'
          clear h1 h2
          go_enter Try.func22, Try.ntmps22
          go_wp2_with (first | (go_at_call 9; with_reducible refine (refOf_at lsz lal false _ _ _ _ _ _ _ _ X1.out _).mono ?_; rintro e w1 ⟨rfl, hb1⟩; have p1 := (Blk.new w 23 _).below hb1; have n1 := p1.lt; have c1 := p1.cell) | (go_at_call 9; with_reducible refine (refOf_at lsz lal true _ _ _ _ _ _ _ _ X2.out _).mono ?_; rintro e w2 ⟨rfl, hb2⟩; have p1 := (p1.alloc _).below hb2; have n1 := p1.lt; have c1 := p1.cell; have p2 := (Blk.new w1 23 _).below hb2; have n2 := p2.lt; have c2 := p2.cell))
          all_goals (first | (exfalso; apply N1.out; simp only [Lay.mk.injEq]; exact ⟨by omega, by omega, by omega, by omega, by omega, by omega, by omega⟩) | (exfalso; apply N2.out; simp only [Lay.mk.injEq]; exact ⟨by omega, by omega, by omega, by omega, by omega, by omega, by omega⟩) | (have z1 := hb1.size; have z2 := hb2.size; rw [World.size_alloc] at z1 z2; go_ret; exact ⟨rfl, by (repeat' (first | (with_reducible exact Below.refl _ _) | (with_reducible assumption) | (with_reducible refine Below.alloc ?_ ?_ _) | (with_reducible refine below_drewN ?_ _) | (with_reducible refine Below.drew ?_) | (with_reducible refine Below.setCell ?_ ?_ _) | (with_reducible refine below_two ?_ (by with_reducible assumption)) | go_size))⟩))
        · subst he
          clear h1 h2
          go_enter Try.func22, Try.ntmps22
          go_wp2_with (first | (go_at_call 9; with_reducible refine (refOf_at lsz lal false _ _ _ _ _ _ _ _ X1.out _).mono ?_; rintro e w1 ⟨rfl, hb1⟩; have p1 := (Blk.new w 23 _).below hb1; have n1 := p1.lt; have c1 := p1.cell) | (go_at_call 9; with_reducible refine (refOf_at lsz lal true _ _ _ _ _ _ _ _ X2.out _).mono ?_; rintro e w2 ⟨rfl, hb2⟩; have p1 := (p1.alloc _).below hb2; have n1 := p1.lt; have c1 := p1.cell; have p2 := (Blk.new w1 23 _).below hb2; have n2 := p2.lt; have c2 := p2.cell))
          all_goals (first | (exfalso; apply N1.out; simp only [Lay.mk.injEq]; exact ⟨by omega, by omega, by omega, by omega, by omega, by omega, by omega⟩) | (have z1 := hb1.size; have z2 := hb2.size; rw [World.size_alloc] at z1 z2; go_ret; exact ⟨rfl, by (repeat' (first | (with_reducible exact Below.refl _ _) | (with_reducible assumption) | (with_reducible refine Below.alloc ?_ ?_ _) | (with_reducible refine below_drewN ?_ _) | (with_reducible refine Below.drew ?_) | (with_reducible refine Below.setCell ?_ ?_ _) | (with_reducible refine below_two ?_ (by with_reducible assumption)) | go_size))⟩))
      · by_cases he' : e' = 0
        · have N2 := Lib.hid (fun h => h2 ⟨h, he'⟩)
          subst he'
          clear h1 h2
          go_enter Try.func22, Try.ntmps22
          go_wp2_with (first | (go_at_call 9; with_reducible refine (refOf_at lsz lal false _ _ _ _ _ _ _ _ X1.out _).mono ?_; rintro e w1 ⟨rfl, hb1⟩; have p1 := (Blk.new w 23 _).below hb1; have n1 := p1.lt; have c1 := p1.cell) | (go_at_call 9; with_reducible refine (refOf_at lsz lal true _ _ _ _ _ _ _ _ X2.out _).mono ?_; rintro e w2 ⟨rfl, hb2⟩; have p1 := (p1.alloc _).below hb2; have n1 := p1.lt; have c1 := p1.cell; have p2 := (Blk.new w1 23 _).below hb2; have n2 := p2.lt; have c2 := p2.cell))
          all_goals (first | (exfalso; apply N2.out; simp only [Lay.mk.injEq]; exact ⟨by omega, by omega, by omega, by omega, by omega, by omega, by omega⟩) | (have z1 := hb1.size; have z2 := hb2.size; rw [World.size_alloc] at z1 z2; go_ret; exact ⟨rfl, by (repeat' (first | (with_reducible exact Below.refl _ _) | (with_reducible assumption) | (with_reducible refine Below.alloc ?_ ?_ _) | (with_reducible refine below_drewN ?_ _) | (with_reducible refine Below.drew ?_) | (with_reducible refine Below.setCell ?_ ?_ _) | (with_reducible refine below_two ?_ (by with_reducible assumption)) | go_size))⟩))
        · clear h1 h2
          go_enter Try.func22, Try.ntmps22
          go_wp2_with (first | (go_at_call 9; with_reducible refine (refOf_at lsz lal false _ _ _ _ _ _ _ _ X1.out _).mono ?_; rintro e w1 ⟨rfl, hb1⟩; have p1 := (Blk.new w 23 _).below hb1; have n1 := p1.lt; have c1 := p1.cell) | (go_at_call 9; with_reducible refine (refOf_at lsz lal true _ _ _ _ _ _ _ _ X2.out _).mono ?_; rintro e w2 ⟨rfl, hb2⟩; have p1 := (p1.alloc _).below hb2; have n1 := p1.lt; have c1 := p1.cell; have p2 := (Blk.new w1 23 _).below hb2; have n2 := p2.lt; have c2 := p2.cell))
          all_goals (first | (have z1 := hb1.size; have z2 := hb2.size; rw [World.size_alloc] at z1 z2; go_ret; exact ⟨rfl, by (repeat' (first | (with_reducible exact Below.refl _ _) | (with_reducible assumption) | (with_reducible refine Below.alloc ?_ ?_ _) | (with_reducible refine below_drewN ?_ _) | (with_reducible refine Below.drew ?_) | (with_reducible refine Below.setCell ?_ ?_ _) | (with_reducible refine below_two ?_ (by with_reducible assumption)) | go_size))⟩))

end Go.Proofs.Ytibpaomkaknbhaa
