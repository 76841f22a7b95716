/-
  The walks of Counts, of both texts.
-/
import Derived.Test.YtmljiklddjladaaWalkA
import Derived.Test.YtmljiklddjladaaBits
namespace Go.Proofs.Ytmljiklddjladaa
open Go.RowKit

theorem counts_any (x : Int) (h0 : 0 ≤ x) (h1 : x < 18446744073709551616) (w : World) : Calls Try.prog 10 #[.int .u64 x] w fun e w' =>
    e = .returned (.tuple #[.agg #[.int .i64 (cntF x).1.i, .int .i64 (cntF x).1.o, .bool (cntF x).1.f, .bool (cntF x).1.l], .bool (cntF x).2]) ∧ Below w.heap.size w w' := by
  have e1 := and_255 h0 h1
  have e2 := and_255 (w := x / 256) (by omega) (by omega)
  have e3 := bit16 h0 h1
  have e4 := bit17 h0 h1
  obtain ⟨ff, hff⟩ : ∃ ff, fF x = ff := ⟨_, rfl⟩
  obtain ⟨fl, hfl⟩ : ∃ fl, fL x = fl := ⟨_, rfl⟩
  rw [hff] at e3
  rw [hfl] at e4
  by_cases hw : x < 262144
  · cases hm : mayC (x % 256) (x / 256 % 256) ff fl
    · rw [show cntF x = (cnt0, false) by unfold cntF fI fO; rw [hff, hfl, hm, if_neg (fun h => Bool.false_ne_true h.2)]]
      have HM := Lib.hid hm
      clear hm hff hfl
      go_enter Try.func10, Try.ntmps10
      go_wp2_with (first | (go_at_call 22; with_reducible refine (may_at _ _ _ _ _ HM.out _).mono ?_; rintro e w1 ⟨rfl, hb1⟩; have p0 := ((Blk.new w 23 _).alloc _).below hb1; have p1 := (Blk.new2 w _ 23 _).below hb1; have n1 := p1.lt; have c1 := p1.cell; have z1 := hb1.size; rw [World.size_alloc, World.size_alloc] at z1) | (refine wpList_store_blk rfl 23 _ _ rfl _ rfl rfl (p0) rfl (by kernel_rfl) (by simp [Value.oneCell']) ?_; intro w8 ho8 kb8; have kc8 := kb8.cell))
      exact bodyPost_ret (v := .tuple #[.agg #[.int .i64 0, .int .i64 0, .bool false, .bool false], .bool false]) (by simp [results, Try.results10, go_sem, kc8]) rfl ⟨rfl, below_only (by (repeat' (first | (with_reducible exact Below.refl _ _) | (with_reducible assumption) | (with_reducible refine Below.alloc ?_ ?_ _) | (with_reducible refine below_drewN ?_ _) | (with_reducible refine Below.drew ?_) | (with_reducible refine Below.setCell ?_ ?_ _) | (with_reducible refine below_two ?_ (by with_reducible assumption)) | go_size))) ho8 (Nat.le_refl _)⟩
    · rw [show cntF x = (⟨x % 256, x / 256 % 256, ff, fl⟩, true) by unfold cntF fI fO; rw [hff, hfl, if_pos ⟨hw, hm⟩]]
      have HM := Lib.hid hm
      clear hm hff hfl
      go_enter Try.func10, Try.ntmps10
      go_wp2_with (first | (go_at_call 22; with_reducible refine (may_at _ _ _ _ _ HM.out _).mono ?_; rintro e w1 ⟨rfl, hb1⟩; have p0 := ((Blk.new w 23 _).alloc _).below hb1; have p1 := (Blk.new2 w _ 23 _).below hb1; have n1 := p1.lt; have c1 := p1.cell; have z1 := hb1.size; rw [World.size_alloc, World.size_alloc] at z1) | (refine wpList_store_blk rfl 23 _ _ rfl _ rfl rfl (p0) rfl (by kernel_rfl) (by simp [Value.oneCell']) ?_; intro w8 ho8 kb8; have kc8 := kb8.cell))
      exact bodyPost_ret (v := .tuple #[.agg #[.int .i64 (x % 256), .int .i64 (x / 256 % 256), .bool ff, .bool fl], .bool true]) (by simp [results, Try.results10, go_sem, kc8]) rfl ⟨rfl, below_only (by (repeat' (first | (with_reducible exact Below.refl _ _) | (with_reducible assumption) | (with_reducible refine Below.alloc ?_ ?_ _) | (with_reducible refine below_drewN ?_ _) | (with_reducible refine Below.drew ?_) | (with_reducible refine Below.setCell ?_ ?_ _) | (with_reducible refine below_two ?_ (by with_reducible assumption)) | go_size))) ho8 (Nat.le_refl _)⟩
  · rw [show cntF x = (cnt0, false) by unfold cntF; rw [if_neg (fun h => hw h.1)]]
    clear hff hfl
    go_enter Try.func10, Try.ntmps10
    go_wp2
    exact bodyPost_ret (v := .tuple #[.agg #[.int .i64 0, .int .i64 0, .bool false, .bool false], .bool false]) (by simp [results, Try.results10, go_sem]) rfl ⟨rfl, by (repeat' (first | (with_reducible exact Below.refl _ _) | (with_reducible assumption) | (with_reducible refine Below.alloc ?_ ?_ _) | (with_reducible refine below_drewN ?_ _) | (with_reducible refine Below.drew ?_) | (with_reducible refine Below.setCell ?_ ?_ _) | (with_reducible refine below_two ?_ (by with_reducible assumption)) | go_size))⟩

theorem fF_beq (x : Int) : (x / 65536 % 2 == 1) = fF x := rfl
theorem fL_beq (x : Int) : (x / 131072 % 2 == 1) = fL x := rfl

theorem refCounts_any (x : Int) (h0 : 0 ≤ x) (h1 : x < 18446744073709551616) (w : World) : Calls Try.prog 11 #[.int .u64 x] w fun e w' =>
    e = .returned (.tuple #[.agg #[.int .i64 (cntF x).1.i, .int .i64 (cntF x).1.o, .bool (cntF x).1.f, .bool (cntF x).1.l], .bool (cntF x).2]) ∧ Below w.heap.size w w' := by
  have e3 := fF_beq x
  have e4 := fL_beq x
  have k := cnt_two h0
  unfold fI fO at k
  obtain ⟨ff, hff⟩ : ∃ ff, fF x = ff := ⟨_, rfl⟩
  obtain ⟨fl, hfl⟩ : ∃ fl, fL x = fl := ⟨_, rfl⟩
  rw [hff] at e3 k
  rw [hfl] at e4 k
  rcases hp : packF (x % 256) (x / 256 % 256) ff fl with ⟨v, e⟩
  rw [hp] at k
  simp only [] at k
  have HP := Lib.hid hp
  clear hp
  by_cases he : e = 0
  · by_cases hv : v = x
    · obtain ⟨k1, k2⟩ := k.1 ⟨he, hv⟩
      rw [show cntF x = (⟨x % 256, x / 256 % 256, ff, fl⟩, true) by unfold cntF fI fO; rw [hff, hfl, if_pos ⟨k1, k2⟩]]
      subst he
      subst hv
      clear k k2 hff hfl
      go_enter Try.func11, Try.ntmps11
      go_wp2_with (first | (go_at_call 9; with_reducible refine (refPack_at _ _ _ _ _ _ HP.out _).mono ?_; rintro e w1 ⟨rfl, hb1⟩; have p0 := ((Blk.new w 23 _).alloc _).below hb1; have p1 := (Blk.new2 w _ 23 _).below hb1; have n1 := p1.lt; have c1 := p1.cell; have z1 := hb1.size; rw [World.size_alloc, World.size_alloc] at z1) | (refine wpList_store_blk rfl 23 _ _ rfl _ rfl rfl (p0) rfl (by kernel_rfl) (by simp [Value.oneCell']) ?_; intro w8 ho8 kb8; have kc8 := kb8.cell))
      exact bodyPost_ret (v := .tuple #[.agg #[.int .i64 (v % 256), .int .i64 (v / 256 % 256), .bool ff, .bool fl], .bool true]) (by simp [results, Try.results11, go_sem, kc8]) rfl ⟨rfl, below_only (by (repeat' (first | (with_reducible exact Below.refl _ _) | (with_reducible assumption) | (with_reducible refine Below.alloc ?_ ?_ _) | (with_reducible refine below_drewN ?_ _) | (with_reducible refine Below.drew ?_) | (with_reducible refine Below.setCell ?_ ?_ _) | (with_reducible refine below_two ?_ (by with_reducible assumption)) | go_size))) ho8 (Nat.le_refl _)⟩
    · rw [show cntF x = (cnt0, false) by unfold cntF fI fO; rw [hff, hfl, if_neg (fun h => hv (k.2 h).2)]]
      subst he
      clear k hff hfl
      go_enter Try.func11, Try.ntmps11
      go_wp2_with (first | (go_at_call 9; with_reducible refine (refPack_at _ _ _ _ _ _ HP.out _).mono ?_; rintro e w1 ⟨rfl, hb1⟩; have p0 := ((Blk.new w 23 _).alloc _).below hb1; have p1 := (Blk.new2 w _ 23 _).below hb1; have n1 := p1.lt; have c1 := p1.cell; have z1 := hb1.size; rw [World.size_alloc, World.size_alloc] at z1) | (refine wpList_store_blk rfl 23 _ _ rfl _ rfl rfl (p0) rfl (by kernel_rfl) (by simp [Value.oneCell']) ?_; intro w8 ho8 kb8; have kc8 := kb8.cell))
      exact bodyPost_ret (v := .tuple #[.agg #[.int .i64 0, .int .i64 0, .bool false, .bool false], .bool false]) (by simp [results, Try.results11, go_sem, kc8]) rfl ⟨rfl, below_only (by (repeat' (first | (with_reducible exact Below.refl _ _) | (with_reducible assumption) | (with_reducible refine Below.alloc ?_ ?_ _) | (with_reducible refine below_drewN ?_ _) | (with_reducible refine Below.drew ?_) | (with_reducible refine Below.setCell ?_ ?_ _) | (with_reducible refine below_two ?_ (by with_reducible assumption)) | go_size))) ho8 (Nat.le_refl _)⟩
  · rw [show cntF x = (cnt0, false) by unfold cntF fI fO; rw [hff, hfl, if_neg (fun h => he (k.2 h).1)]]
    clear k hff hfl
    go_enter Try.func11, Try.ntmps11
    go_wp2_with (first | (go_at_call 9; with_reducible refine (refPack_at _ _ _ _ _ _ HP.out _).mono ?_; rintro e w1 ⟨rfl, hb1⟩; have p0 := ((Blk.new w 23 _).alloc _).below hb1; have p1 := (Blk.new2 w _ 23 _).below hb1; have n1 := p1.lt; have c1 := p1.cell; have z1 := hb1.size; rw [World.size_alloc, World.size_alloc] at z1) | (refine wpList_store_blk rfl 23 _ _ rfl _ rfl rfl (p0) rfl (by kernel_rfl) (by simp [Value.oneCell']) ?_; intro w8 ho8 kb8; have kc8 := kb8.cell))
    exact bodyPost_ret (v := .tuple #[.agg #[.int .i64 0, .int .i64 0, .bool false, .bool false], .bool false]) (by simp [results, Try.results11, go_sem, kc8]) rfl ⟨rfl, below_only (by (repeat' (first | (with_reducible exact Below.refl _ _) | (with_reducible assumption) | (with_reducible refine Below.alloc ?_ ?_ _) | (with_reducible refine below_drewN ?_ _) | (with_reducible refine Below.drew ?_) | (with_reducible refine Below.setCell ?_ ?_ _) | (with_reducible refine below_two ?_ (by with_reducible assumption)) | go_size))) ho8 (Nat.le_refl _)⟩

theorem counts_at (x i o : Int) (f l b : Bool) (h0 : 0 ≤ x) (h1 : x < 18446744073709551616) (h : cntF x = (⟨i, o, f, l⟩, b)) (w : World) : Calls Try.prog 10 #[.int .u64 x] w fun r w' =>
    r = .returned (.tuple #[.agg #[.int .i64 i, .int .i64 o, .bool f, .bool l], .bool b]) ∧ Below w.heap.size w w' := by
  have := counts_any x h0 h1 w
  rw [h] at this
  exact this
theorem refCounts_at (x i o : Int) (f l b : Bool) (h0 : 0 ≤ x) (h1 : x < 18446744073709551616) (h : cntF x = (⟨i, o, f, l⟩, b)) (w : World) : Calls Try.prog 11 #[.int .u64 x] w fun r w' =>
    r = .returned (.tuple #[.agg #[.int .i64 i, .int .i64 o, .bool f, .bool l], .bool b]) ∧ Below w.heap.size w w' := by
  have := refCounts_any x h0 h1 w
  rw [h] at this
  exact this

end Go.Proofs.Ytmljiklddjladaa
