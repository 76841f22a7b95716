/-
  The walks of may, flag (of both texts).
-/
import Derived.Test.YtmljiklddjladaaRows
import Derived.Test.YtmljiklddjladaaPlain
import Derived.Test.YtmljiklddjladaaBring
import Derived.Test.YtmljiklddjladaaExt
import Derived.Test.YtmljiklddjladaaStore
import Derived.Laws.BitsLemmas
import Derived.Laws.Bits64
import Derived.Laws.Bits64b
import Derived.WalkKit
import Derived.Deep.DeepMust
import Derived.WalkSpells
import Derived.WalkLawsBesides
import Derived.Handy
import Derived.Lib.Hide
import Derived.Deep.QuietTactic
import Derived.BigQuiet
namespace Go.Proofs.Ytmljiklddjladaa
open Go.RowKit

theorem flag_any (b : Bool) (n : Int) (w : World) : Calls Try.prog 23 #[.bool b, .int .u64 n] w fun e w' => e = .returned (.int .u64 (if b = true then n else 0)) ∧ w' = w := by
  cases b
  all_goals
    go_enter Try.func23, Try.ntmps23
    go_wp2
    go_ret
    exact ⟨rfl, rfl⟩

theorem slabMay_any (s : Int) (w : World) : Calls Try.prog 25 #[.int .i64 s] w fun e w' => e = .returned (.bool (decide (0 ≤ s ∧ s < 32))) ∧ w' = w := by
  by_cases h0 : 0 ≤ s <;> by_cases h1 : s < 32
  all_goals
    go_enter Try.func25, Try.ntmps25
    go_wp2
    go_ret
    exact ⟨by simp [h0, h1], rfl⟩

theorem may_any (i o : Int) (f l : Bool) (w : World) : Calls Try.prog 22 #[.agg #[.int .i64 i, .int .i64 o, .bool f, .bool l]] w fun e w' =>
    e = .returned (.bool (mayC i o f l)) ∧ Below w.heap.size w w' := by
  cases f <;> cases l
  all_goals
    go_enter Try.func22, Try.ntmps22
    go_wp2
    all_goals
      go_ret
      refine ⟨ret_bool ?_, by (repeat' (first | (with_reducible exact Below.refl _ _) | (with_reducible assumption) | (with_reducible refine Below.alloc ?_ ?_ _) | (with_reducible refine below_drewN ?_ _) | (with_reducible refine Below.drew ?_) | (with_reducible refine Below.setCell ?_ ?_ _) | (with_reducible refine below_two ?_ (by with_reducible assumption)) | go_size))⟩
      first | (simp [mayC]; done) | (simp [mayC]; omega) | (rw [Bool.eq_iff_iff]; simp [mayC]; done) | (rw [Bool.eq_iff_iff]; simp [mayC]; omega)

theorem refMay_any (i o : Int) (f l : Bool) (w : World) : Calls Try.prog 24 #[.agg #[.int .i64 i, .int .i64 o, .bool f, .bool l]] w fun e w' =>
    e = .returned (.bool (mayC i o f l)) ∧ Below w.heap.size w w' := by
  cases f <;> cases l
  all_goals
    go_enter Try.func24, Try.ntmps24
    go_wp2
    all_goals
      go_ret
      refine ⟨ret_bool ?_, by (repeat' (first | (with_reducible exact Below.refl _ _) | (with_reducible assumption) | (with_reducible refine Below.alloc ?_ ?_ _) | (with_reducible refine below_drewN ?_ _) | (with_reducible refine Below.drew ?_) | (with_reducible refine Below.setCell ?_ ?_ _) | (with_reducible refine below_two ?_ (by with_reducible assumption)) | go_size))⟩
      first | (simp [mayC]; done) | (simp [mayC]; omega) | (rw [Bool.eq_iff_iff]; simp [mayC]; done) | (rw [Bool.eq_iff_iff]; simp [mayC]; omega)

theorem may_at (i o : Int) (f l m : Bool) (h : mayC i o f l = m) (w : World) : Calls Try.prog 22 #[.agg #[.int .i64 i, .int .i64 o, .bool f, .bool l]] w fun e w' =>
    e = .returned (.bool m) ∧ Below w.heap.size w w' := h ▸ may_any i o f l w
theorem refMay_at (i o : Int) (f l m : Bool) (h : mayC i o f l = m) (w : World) : Calls Try.prog 24 #[.agg #[.int .i64 i, .int .i64 o, .bool f, .bool l]] w fun e w' =>
    e = .returned (.bool m) ∧ Below w.heap.size w w' := h ▸ refMay_any i o f l w
theorem flag_b (b : Bool) (n : Int) (w : World) : Calls Try.prog 23 #[.bool b, .int .u64 n] w fun e w' => e = .returned (.int .u64 (if b = true then n else 0)) ∧ Below w.heap.size w w' := by
  refine (flag_any b n w).mono ?_
  rintro e w' ⟨rfl, rfl⟩
  exact ⟨rfl, Below.refl _ _⟩

theorem packBits {i o : Int} {f l : Bool} (h0 : 0 ≤ i) (h1 : i ≤ 16) (h2 : 0 ≤ o) (h3 : o ≤ 16) :
    bits .or .u64 (bits .or .u64 (bits .or .u64 i (o * 256)) (if f = true then 65536 else 0)) (if l = true then 131072 else 0) = packW i o f l := by
  obtain ⟨n, rfl⟩ := Int.eq_ofNat_of_zero_le h0
  obtain ⟨m, rfl⟩ := Int.eq_ofNat_of_zero_le h2
  have key : ∀ (n m : Fin 17) (f l : Bool), bits .or .u64 (bits .or .u64 (bits .or .u64 (n.val : Int) ((m.val : Int) * 256)) (if f = true then 65536 else 0)) (if l = true then 131072 else 0) = packW (n.val : Int) (m.val : Int) f l := by decide +kernel
  exact key ⟨n, by omega⟩ ⟨m, by omega⟩ f l

theorem pack_any (i o : Int) (f l : Bool) (w : World) : Calls Try.prog 8 #[.agg #[.int .i64 i, .int .i64 o, .bool f, .bool l]] w fun e w' =>
    e = .returned (.tuple #[.int .u64 (packF i o f l).1, .int .i64 (packF i o f l).2]) ∧ Below w.heap.size w w' := by
  cases hm : mayC i o f l
  · rw [show packF i o f l = (0, 2) by unfold packF; rw [hm]; rfl]
    have HM := Lib.hid hm
    clear hm
    go_enter Try.func8, Try.ntmps8
    go_wp2_with (first | (go_at_call 22; with_reducible refine (may_at _ _ _ _ _ HM.out _).mono ?_; rintro e w1 ⟨rfl, hb1⟩; have p1 := (Blk.new w 23 _).below hb1; have n1 := p1.lt; have c1 := p1.cell))
    have z1 := hb1.size
    rw [World.size_alloc] at z1
    go_ret2
    exact ⟨rfl, by (repeat' (first | (with_reducible exact Below.refl _ _) | (with_reducible assumption) | (with_reducible refine Below.alloc ?_ ?_ _) | (with_reducible refine below_drewN ?_ _) | (with_reducible refine Below.drew ?_) | (with_reducible refine Below.setCell ?_ ?_ _) | (with_reducible refine below_two ?_ (by with_reducible assumption)) | go_size))⟩
  · rw [show packF i o f l = (packW i o f l, 0) by unfold packF; rw [hm]; rfl]
    obtain ⟨b1, b2, b3, b4⟩ := mayC_bd hm
    have hbit := packBits (f := f) (l := l) b1 (by omega) b3 b4
    obtain ⟨v, hv⟩ : ∃ v, packW i o f l = v := ⟨_, rfl⟩
    rw [hv] at hbit ⊢
    have HV := Lib.hid hbit
    have HM := Lib.hid hm
    clear hm hbit hv
    cases f <;> cases l
    all_goals
      go_enter Try.func8, Try.ntmps8
      go_wp2_with (first | (go_at_call 22; with_reducible refine (may_at _ _ _ _ _ HM.out _).mono ?_; rintro e w1 ⟨rfl, hb1⟩; have p1 := (Blk.new w 23 _).below hb1; have n1 := p1.lt; have c1 := p1.cell; have d1 := p1.frozen))
      have z1 := hb1.size
      rw [World.size_alloc] at z1
      obtain ⟨w2, rfl⟩ : ∃ w2, w2 = w1 := ⟨_, rfl⟩
      (refine wp_region_ext (w.heap.size + 1) (by kernel_rfl) (by kernel_rfl) (by go_size) (fun hxc hxf hxh hxn => ?_); (repeat (first | go_big_quiet_step ((go_at_call 23; exact ext_call (flag_b _ _ _))) | quiet_step ((go_at_call 23; exact ext_call (flag_b _ _ _))))); refine wpQuiet_nil ?_; intro w1 hs1; clear hxc hxf hxh hxn; obtain ⟨hb1, hz1, hc1, hf1⟩ := ext_known hs1 (w.heap.size + 1) (by go_size); clear hs1)
      have hv := HV.out
      simp only [Bool.false_eq_true, if_true, if_false] at hv
      rw [hv]
      clear HV HM hv
      go_wp2
      go_ret2
      exact ⟨rfl, by (repeat' (first | (with_reducible exact Below.refl _ _) | (with_reducible assumption) | (with_reducible refine Below.alloc ?_ ?_ _) | (with_reducible refine below_drewN ?_ _) | (with_reducible refine Below.drew ?_) | (with_reducible refine Below.setCell ?_ ?_ _) | (with_reducible refine below_two ?_ (by with_reducible assumption)) | go_size))⟩

theorem refPack_any (i o : Int) (f l : Bool) (w : World) : Calls Try.prog 9 #[.agg #[.int .i64 i, .int .i64 o, .bool f, .bool l]] w fun e w' =>
    e = .returned (.tuple #[.int .u64 (packF i o f l).1, .int .i64 (packF i o f l).2]) ∧ Below w.heap.size w w' := by
  cases hm : mayC i o f l
  · rw [show packF i o f l = (0, 2) by unfold packF; rw [hm]; rfl]
    have HM := Lib.hid hm
    clear hm
    go_enter Try.func9, Try.ntmps9
    go_wp2_with (first | (go_at_call 24; with_reducible refine (refMay_at _ _ _ _ _ HM.out _).mono ?_; rintro e w1 ⟨rfl, hb1⟩; have p1 := (Blk.new w 23 _).below hb1; have n1 := p1.lt; have c1 := p1.cell))
    have z1 := hb1.size
    rw [World.size_alloc] at z1
    go_ret2
    exact ⟨rfl, by (repeat' (first | (with_reducible exact Below.refl _ _) | (with_reducible assumption) | (with_reducible refine Below.alloc ?_ ?_ _) | (with_reducible refine below_drewN ?_ _) | (with_reducible refine Below.drew ?_) | (with_reducible refine Below.setCell ?_ ?_ _) | (with_reducible refine below_two ?_ (by with_reducible assumption)) | go_size))⟩
  · rw [show packF i o f l = (packW i o f l, 0) by unfold packF; rw [hm]; rfl]
    obtain ⟨b1, b2, b3, b4⟩ := mayC_bd hm
    have HM := Lib.hid hm
    clear hm
    cases f <;> cases l
    all_goals
      go_enter Try.func9, Try.ntmps9
      go_wp2_with (first | (go_at_call 24; with_reducible refine (refMay_at _ _ _ _ _ HM.out _).mono ?_; rintro e w1 ⟨rfl, hb1⟩; have p1 := (Blk.new w 23 _).below hb1; have n1 := p1.lt; have c1 := p1.cell; have d1 := p1.frozen))
      have z1 := hb1.size
      rw [World.size_alloc] at z1
      go_ret2
      refine ⟨?_, by (repeat' (first | (with_reducible exact Below.refl _ _) | (with_reducible assumption) | (with_reducible refine Below.alloc ?_ ?_ _) | (with_reducible refine below_drewN ?_ _) | (with_reducible refine Below.drew ?_) | (with_reducible refine Below.setCell ?_ ?_ _) | (with_reducible refine below_two ?_ (by with_reducible assumption)) | go_size))⟩
      simp [packW]
      try omega

theorem pack_at (i o : Int) (f l : Bool) (v e : Int) (h : packF i o f l = (v, e)) (w : World) : Calls Try.prog 8 #[.agg #[.int .i64 i, .int .i64 o, .bool f, .bool l]] w fun r w' =>
    r = .returned (.tuple #[.int .u64 v, .int .i64 e]) ∧ Below w.heap.size w w' := by
  have := pack_any i o f l w
  rw [h] at this
  exact this
theorem refPack_at (i o : Int) (f l : Bool) (v e : Int) (h : packF i o f l = (v, e)) (w : World) : Calls Try.prog 9 #[.agg #[.int .i64 i, .int .i64 o, .bool f, .bool l]] w fun r w' =>
    r = .returned (.tuple #[.int .u64 v, .int .i64 e]) ∧ Below w.heap.size w w' := by
  have := refPack_any i o f l w
  rw [h] at this
  exact this

end Go.Proofs.Ytmljiklddjladaa
