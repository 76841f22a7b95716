/-
  The walk of Of, of what may be.
-/
import Derived.Test.YtibpaomkaknbhaaWalkH
namespace Go.Proofs.Ytibpaomkaknbhaa
open Go.RowKit

set_option maxHeartbeats 4000000 in
theorem of_ok00 (s a st : Int) (h1 : 1 ≤ s) (h2 : s ≤ 2048) (h3 : 1 ≤ a) (h4 : a ≤ 64) (h8 : 8 < a) (hb : (bits .and .i64 a (a - 1) != 0) = false) (HS : Hid (upI (s) a = st)) (hst0 : 1 ≤ st ∧ st ≤ 100000) (R : Lay × Int) (HR : Hid (scan ⟨s, a, st, 0, 0, 0, 0⟩ 4 0 none = R)) (w : World) : Calls Try.prog 8 #[.int .i64 s, .int .i64 a, .bool false] w fun e w' =>
    e = .returned (.tuple #[layV R.1, .int .i64 R.2]) ∧ Below w.heap.size w w' := by
  go_enter Try.func8, Try.ntmps8
  go_wp2_with (first | (go_at_call 16; refine (up_is' (s) a st HS.out (by omega) (by omega) (by omega) (by omega) _).mono ?_; rintro e w1 ⟨rfl, rfl⟩))
  go_loopw [54, 10] (fun j fd wr => OfRel w.heap.size w s a st 0 R j fd wr) (fun j _ _ => 4 - (intOf j).toNat)
  case atStart => exact ⟨0, none, by omega, rfl, rfl, HR, (((Blk.new w _ _).alloc _).alloc _), (Blk.new2 w _ 23 _).alloc _, Blk.new3 w _ _ 23 _, by go_size, by (repeat' (first | (with_reducible exact Below.refl _ _) | (with_reducible assumption) | (with_reducible refine Below.alloc ?_ ?_ _) | (with_reducible refine below_drewN ?_ _) | (with_reducible refine Below.drew ?_) | (with_reducible refine Below.setCell ?_ ?_ _) | (with_reducible refine below_two ?_ (by with_reducible assumption)) | go_size))⟩
  case round =>
    obtain ⟨k, first, hk, rfl, rfl, HK, k0, k1, k2, hz, hw⟩ := hrel
    have c1 := k1.cell
    unfold layC at c1
    by_cases hlt : k < 4
    · obtain ⟨ob, hob⟩ : ∃ ob, (slabF ⟨s, a, st, 0, 0, 0, 0⟩ k).obj = ob := ⟨_, rfl⟩
      obtain ⟨wa, hwa⟩ : ∃ wa, (slabF ⟨s, a, st, 0, 0, 0, 0⟩ k).was = wa := ⟨_, rfl⟩
      have HO := Lib.hid hob
      have HW := Lib.hid hwa
      clear hob hwa
      have hbd := was_bd (l := ⟨s, a, st, 0, 0, 0, 0⟩) hst0.1 k
      rw [HW.out] at hbd
      have hpow := bytes_le hlt
      by_cases ho : ob = 0
      · have HN := Lib.hid (scan_zero (first := first) hlt HO.out ho)
        go_wp2_with (first | (go_at_call 17; refine (slab_at s a st 0 k ob wa (by omega) hst0.1 hst0.2 HO.out HW.out _).mono ?_; rintro e w2 ⟨rfl, hb2⟩; obtain ⟨hz2, hc2, hf2⟩ := bcellB hb2 (w.heap.size + 3) (by go_size)))
        go_roundw
        case rel => exact ⟨k + 1, first, by omega, by go_num, rfl, Lib.hid (HN.out.symm.trans HK.out), (k0.below hb2).alloc _, (k1.below hb2).alloc _, (k2.below hb2).alloc _, by go_size, by (repeat' (first | (with_reducible exact Below.refl _ _) | (with_reducible assumption) | (with_reducible refine Below.alloc ?_ ?_ _) | (with_reducible refine below_drewN ?_ _) | (with_reducible refine Below.drew ?_) | (with_reducible refine Below.setCell ?_ ?_ _) | (with_reducible refine below_two ?_ (by with_reducible assumption)) | go_size))⟩
        case measure => simp [intOf]; omega
      · have hwp := wrap_bytes hlt
        have hly := Lib.hid (lay_of (s := s) (a := a) (st := st) (off := 0) HO.out HW.out)
        by_cases hg : wa * 8 ≤ bytesO k
        · have HN := Lib.hid (scan_good (first := first) hlt HO.out ho HW.out hg)
          rw [← hwp] at hg
          clear hwp
          go_wp2_with (first | (go_at_call 17; refine (slab_at s a st 0 k ob wa (by omega) hst0.1 hst0.2 HO.out HW.out _).mono ?_; rintro e w2 ⟨rfl, hb2⟩; obtain ⟨hz2, hc2, hf2⟩ := bcellB hb2 (w.heap.size + 3) (by go_size)))
          (refine wp_region_ext (w2.heap.size + 1) (by kernel_rfl) (by kernel_rfl) (by go_size) (fun hxc hxf hxh hxn => ?_); (repeat (first | go_big_quiet_step (fail) | quiet_step (fail))); refine wpQuiet_nil ?_; intro w1 hs1; clear hxc hxf hxh hxn; obtain ⟨hb1, hz1, hc1, hf1⟩ := ext_known hs1 (w2.heap.size + 1) (by go_size); clear hs1)
          have q0 := ((k0.below hb2).alloc _).below hb1
          go_wp2_with (first | (refine wpList_store_blk rfl 23 _ _ rfl _ rfl rfl (q0) rfl (by kernel_rfl) (by simp [Value.oneCell']) ?_; intro w8 ho8 kb8; have kc8 := kb8.cell))
          exact bodyPost_ret (v := .tuple #[.agg #[.int .i64 s, .int .i64 a, .int .i64 st, .int .i64 0, .int .i64 k, .int .i64 ob, .int .i64 wa], .int .i64 0]) (by simp [results, Try.results8, go_sem, kc8]) rfl ⟨by rw [← HK.out, HN.out, hly.out], below_only (by (repeat' (first | (with_reducible exact Below.refl _ _) | (with_reducible assumption) | (with_reducible refine Below.alloc ?_ ?_ _) | (with_reducible refine below_drewN ?_ _) | (with_reducible refine Below.drew ?_) | (with_reducible refine Below.setCell ?_ ?_ _) | (with_reducible refine below_two ?_ (by with_reducible assumption)) | go_size))) ho8 (Nat.le_refl _)⟩
        · cases first
          · have HN := Lib.hid (scan_first hlt HO.out ho HW.out hg)
            rw [← hwp] at hg
            clear hwp
            go_wp2_with (first | (go_at_call 17; refine (slab_at s a st 0 k ob wa (by omega) hst0.1 hst0.2 HO.out HW.out _).mono ?_; rintro e w2 ⟨rfl, hb2⟩; obtain ⟨hz2, hc2, hf2⟩ := bcellB hb2 (w.heap.size + 3) (by go_size)))
            (refine wp_region_ext (w2.heap.size + 1) (by kernel_rfl) (by kernel_rfl) (by go_size) (fun hxc hxf hxh hxn => ?_); (repeat (first | go_big_quiet_step (fail) | quiet_step (fail))); refine wpQuiet_nil ?_; intro w1 hs1; clear hxc hxf hxh hxn; obtain ⟨hb1, hz1, hc1, hf1⟩ := ext_known hs1 (w2.heap.size + 1) (by go_size); clear hs1)
            have q0 := ((k0.below hb2).alloc _).below hb1
            have q1 := ((k1.below hb2).alloc _).below hb1
            have q2 := ((k2.below hb2).alloc _).below hb1
            go_wp2_with (first | (refine wpList_store_blk rfl 23 _ _ rfl _ rfl rfl (q2) rfl (by kernel_rfl) (by simp [Value.oneCell']) ?_; intro w8 ho8 kb8; have kc8 := kb8.cell))
            go_roundw
            case rel => exact ⟨k + 1, some (slabF ⟨s, a, st, 0, 0, 0, 0⟩ k), by omega, by go_num, rfl, Lib.hid (HN.out.symm.trans HK.out), q0.only ho8 (by omega), q1.only ho8 (by omega), lay_blk hly.out kb8, by rw [ho8.size]; omega, below_only (by (repeat' (first | (with_reducible exact Below.refl _ _) | (with_reducible assumption) | (with_reducible refine Below.alloc ?_ ?_ _) | (with_reducible refine below_drewN ?_ _) | (with_reducible refine Below.drew ?_) | (with_reducible refine Below.setCell ?_ ?_ _) | (with_reducible refine below_two ?_ (by with_reducible assumption)) | go_size))) ho8 (by omega)⟩
            case measure => simp [intOf]; omega
          · rename_i x
            have HN := Lib.hid (scan_some (x := x) hlt HO.out ho HW.out hg)
            rw [← hwp] at hg
            clear hwp
            go_wp2_with (first | (go_at_call 17; refine (slab_at s a st 0 k ob wa (by omega) hst0.1 hst0.2 HO.out HW.out _).mono ?_; rintro e w2 ⟨rfl, hb2⟩; obtain ⟨hz2, hc2, hf2⟩ := bcellB hb2 (w.heap.size + 3) (by go_size)))
            (refine wp_region_ext (w2.heap.size + 1) (by kernel_rfl) (by kernel_rfl) (by go_size) (fun hxc hxf hxh hxn => ?_); (repeat (first | go_big_quiet_step (fail) | quiet_step (fail))); refine wpQuiet_nil ?_; intro w1 hs1; clear hxc hxf hxh hxn; obtain ⟨hb1, hz1, hc1, hf1⟩ := ext_known hs1 (w2.heap.size + 1) (by go_size); clear hs1)
            have q0 := ((k0.below hb2).alloc _).below hb1
            have q1 := ((k1.below hb2).alloc _).below hb1
            have q2 := ((k2.below hb2).alloc _).below hb1
            go_wp2
            go_roundw
            case rel => exact ⟨k + 1, _, by omega, by go_num, rfl, Lib.hid (HN.out.symm.trans HK.out), q0, q1, q2, by omega, by (repeat' (first | (with_reducible exact Below.refl _ _) | (with_reducible assumption) | (with_reducible refine Below.alloc ?_ ?_ _) | (with_reducible refine below_drewN ?_ _) | (with_reducible refine Below.drew ?_) | (with_reducible refine Below.setCell ?_ ?_ _) | (with_reducible refine below_two ?_ (by with_reducible assumption)) | go_size))⟩
            case measure => simp [intOf]; omega
    · have hk4 : k = 4 := by omega
      subst hk4
      cases first
      · go_wp2_with (first | (refine wpList_store_blk rfl 23 _ _ rfl _ rfl rfl (k0) rfl (by kernel_rfl) (by simp [Value.oneCell']) ?_; intro w8 ho8 kb8; have kc8 := kb8.cell))
        exact bodyPost_ret (v := .tuple #[.agg #[.int .i64 0, .int .i64 0, .int .i64 0, .int .i64 0, .int .i64 0, .int .i64 0, .int .i64 0], .int .i64 150]) (by simp [results, Try.results8, go_sem, kc8]) rfl ⟨by rw [← HK.out]; rfl, below_only hw ho8 (Nat.le_refl _)⟩
      · rename_i x
        have c2 := k2.cell
        simp only [Option.getD_some, layC] at c2
        go_wp2_with (first | (refine wpList_store_blk rfl 23 _ _ rfl _ rfl rfl (k0) rfl (by kernel_rfl) (by simp [Value.oneCell']) ?_; intro w8 ho8 kb8; have kc8 := kb8.cell))
        exact bodyPost_ret (v := .tuple #[.agg #[.int .i64 x.sz, .int .i64 x.al, .int .i64 x.st, .int .i64 x.off, .int .i64 x.ord, .int .i64 x.obj, .int .i64 x.was], .int .i64 0]) (by simp [results, Try.results8, go_sem, kc8]) rfl ⟨by rw [← HK.out]; rfl, below_only hw ho8 (Nat.le_refl _)⟩

set_option maxHeartbeats 4000000 in
theorem of_ok01 (s a st : Int) (h1 : 1 ≤ s) (h2 : s ≤ 2048) (h3 : 1 ≤ a) (h4 : a ≤ 64) (h8 : a ≤ 8) (hb : (bits .and .i64 a (a - 1) != 0) = false) (HS : Hid (upI (s) 8 = st)) (hst0 : 1 ≤ st ∧ st ≤ 100000) (R : Lay × Int) (HR : Hid (scan ⟨s, a, st, 0, 0, 0, 0⟩ 4 0 none = R)) (w : World) : Calls Try.prog 8 #[.int .i64 s, .int .i64 a, .bool false] w fun e w' =>
    e = .returned (.tuple #[layV R.1, .int .i64 R.2]) ∧ Below w.heap.size w w' := by
  go_enter Try.func8, Try.ntmps8
  go_wp2_with (first | (go_at_call 16; refine (up_is' (s) 8 st HS.out (by omega) (by omega) (by omega) (by omega) _).mono ?_; rintro e w1 ⟨rfl, rfl⟩))
  go_loopw [54, 10] (fun j fd wr => OfRel w.heap.size w s a st 0 R j fd wr) (fun j _ _ => 4 - (intOf j).toNat)
  case atStart => exact ⟨0, none, by omega, rfl, rfl, HR, (((Blk.new w _ _).alloc _).alloc _), (Blk.new2 w _ 23 _).alloc _, Blk.new3 w _ _ 23 _, by go_size, by (repeat' (first | (with_reducible exact Below.refl _ _) | (with_reducible assumption) | (with_reducible refine Below.alloc ?_ ?_ _) | (with_reducible refine below_drewN ?_ _) | (with_reducible refine Below.drew ?_) | (with_reducible refine Below.setCell ?_ ?_ _) | (with_reducible refine below_two ?_ (by with_reducible assumption)) | go_size))⟩
  case round =>
    obtain ⟨k, first, hk, rfl, rfl, HK, k0, k1, k2, hz, hw⟩ := hrel
    have c1 := k1.cell
    unfold layC at c1
    by_cases hlt : k < 4
    · obtain ⟨ob, hob⟩ : ∃ ob, (slabF ⟨s, a, st, 0, 0, 0, 0⟩ k).obj = ob := ⟨_, rfl⟩
      obtain ⟨wa, hwa⟩ : ∃ wa, (slabF ⟨s, a, st, 0, 0, 0, 0⟩ k).was = wa := ⟨_, rfl⟩
      have HO := Lib.hid hob
      have HW := Lib.hid hwa
      clear hob hwa
      have hbd := was_bd (l := ⟨s, a, st, 0, 0, 0, 0⟩) hst0.1 k
      rw [HW.out] at hbd
      have hpow := bytes_le hlt
      by_cases ho : ob = 0
      · have HN := Lib.hid (scan_zero (first := first) hlt HO.out ho)
        go_wp2_with (first | (go_at_call 17; refine (slab_at s a st 0 k ob wa (by omega) hst0.1 hst0.2 HO.out HW.out _).mono ?_; rintro e w2 ⟨rfl, hb2⟩; obtain ⟨hz2, hc2, hf2⟩ := bcellB hb2 (w.heap.size + 3) (by go_size)))
        go_roundw
        case rel => exact ⟨k + 1, first, by omega, by go_num, rfl, Lib.hid (HN.out.symm.trans HK.out), (k0.below hb2).alloc _, (k1.below hb2).alloc _, (k2.below hb2).alloc _, by go_size, by (repeat' (first | (with_reducible exact Below.refl _ _) | (with_reducible assumption) | (with_reducible refine Below.alloc ?_ ?_ _) | (with_reducible refine below_drewN ?_ _) | (with_reducible refine Below.drew ?_) | (with_reducible refine Below.setCell ?_ ?_ _) | (with_reducible refine below_two ?_ (by with_reducible assumption)) | go_size))⟩
        case measure => simp [intOf]; omega
      · have hwp := wrap_bytes hlt
        have hly := Lib.hid (lay_of (s := s) (a := a) (st := st) (off := 0) HO.out HW.out)
        by_cases hg : wa * 8 ≤ bytesO k
        · have HN := Lib.hid (scan_good (first := first) hlt HO.out ho HW.out hg)
          rw [← hwp] at hg
          clear hwp
          go_wp2_with (first | (go_at_call 17; refine (slab_at s a st 0 k ob wa (by omega) hst0.1 hst0.2 HO.out HW.out _).mono ?_; rintro e w2 ⟨rfl, hb2⟩; obtain ⟨hz2, hc2, hf2⟩ := bcellB hb2 (w.heap.size + 3) (by go_size)))
          (refine wp_region_ext (w2.heap.size + 1) (by kernel_rfl) (by kernel_rfl) (by go_size) (fun hxc hxf hxh hxn => ?_); (repeat (first | go_big_quiet_step (fail) | quiet_step (fail))); refine wpQuiet_nil ?_; intro w1 hs1; clear hxc hxf hxh hxn; obtain ⟨hb1, hz1, hc1, hf1⟩ := ext_known hs1 (w2.heap.size + 1) (by go_size); clear hs1)
          have q0 := ((k0.below hb2).alloc _).below hb1
          go_wp2_with (first | (refine wpList_store_blk rfl 23 _ _ rfl _ rfl rfl (q0) rfl (by kernel_rfl) (by simp [Value.oneCell']) ?_; intro w8 ho8 kb8; have kc8 := kb8.cell))
          exact bodyPost_ret (v := .tuple #[.agg #[.int .i64 s, .int .i64 a, .int .i64 st, .int .i64 0, .int .i64 k, .int .i64 ob, .int .i64 wa], .int .i64 0]) (by simp [results, Try.results8, go_sem, kc8]) rfl ⟨by rw [← HK.out, HN.out, hly.out], below_only (by (repeat' (first | (with_reducible exact Below.refl _ _) | (with_reducible assumption) | (with_reducible refine Below.alloc ?_ ?_ _) | (with_reducible refine below_drewN ?_ _) | (with_reducible refine Below.drew ?_) | (with_reducible refine Below.setCell ?_ ?_ _) | (with_reducible refine below_two ?_ (by with_reducible assumption)) | go_size))) ho8 (Nat.le_refl _)⟩
        · cases first
          · have HN := Lib.hid (scan_first hlt HO.out ho HW.out hg)
            rw [← hwp] at hg
            clear hwp
            go_wp2_with (first | (go_at_call 17; refine (slab_at s a st 0 k ob wa (by omega) hst0.1 hst0.2 HO.out HW.out _).mono ?_; rintro e w2 ⟨rfl, hb2⟩; obtain ⟨hz2, hc2, hf2⟩ := bcellB hb2 (w.heap.size + 3) (by go_size)))
            (refine wp_region_ext (w2.heap.size + 1) (by kernel_rfl) (by kernel_rfl) (by go_size) (fun hxc hxf hxh hxn => ?_); (repeat (first | go_big_quiet_step (fail) | quiet_step (fail))); refine wpQuiet_nil ?_; intro w1 hs1; clear hxc hxf hxh hxn; obtain ⟨hb1, hz1, hc1, hf1⟩ := ext_known hs1 (w2.heap.size + 1) (by go_size); clear hs1)
            have q0 := ((k0.below hb2).alloc _).below hb1
            have q1 := ((k1.below hb2).alloc _).below hb1
            have q2 := ((k2.below hb2).alloc _).below hb1
            go_wp2_with (first | (refine wpList_store_blk rfl 23 _ _ rfl _ rfl rfl (q2) rfl (by kernel_rfl) (by simp [Value.oneCell']) ?_; intro w8 ho8 kb8; have kc8 := kb8.cell))
            go_roundw
            case rel => exact ⟨k + 1, some (slabF ⟨s, a, st, 0, 0, 0, 0⟩ k), by omega, by go_num, rfl, Lib.hid (HN.out.symm.trans HK.out), q0.only ho8 (by omega), q1.only ho8 (by omega), lay_blk hly.out kb8, by rw [ho8.size]; omega, below_only (by (repeat' (first | (with_reducible exact Below.refl _ _) | (with_reducible assumption) | (with_reducible refine Below.alloc ?_ ?_ _) | (with_reducible refine below_drewN ?_ _) | (with_reducible refine Below.drew ?_) | (with_reducible refine Below.setCell ?_ ?_ _) | (with_reducible refine below_two ?_ (by with_reducible assumption)) | go_size))) ho8 (by omega)⟩
            case measure => simp [intOf]; omega
          · rename_i x
            have HN := Lib.hid (scan_some (x := x) hlt HO.out ho HW.out hg)
            rw [← hwp] at hg
            clear hwp
            go_wp2_with (first | (go_at_call 17; refine (slab_at s a st 0 k ob wa (by omega) hst0.1 hst0.2 HO.out HW.out _).mono ?_; rintro e w2 ⟨rfl, hb2⟩; obtain ⟨hz2, hc2, hf2⟩ := bcellB hb2 (w.heap.size + 3) (by go_size)))
            (refine wp_region_ext (w2.heap.size + 1) (by kernel_rfl) (by kernel_rfl) (by go_size) (fun hxc hxf hxh hxn => ?_); (repeat (first | go_big_quiet_step (fail) | quiet_step (fail))); refine wpQuiet_nil ?_; intro w1 hs1; clear hxc hxf hxh hxn; obtain ⟨hb1, hz1, hc1, hf1⟩ := ext_known hs1 (w2.heap.size + 1) (by go_size); clear hs1)
            have q0 := ((k0.below hb2).alloc _).below hb1
            have q1 := ((k1.below hb2).alloc _).below hb1
            have q2 := ((k2.below hb2).alloc _).below hb1
            go_wp2
            go_roundw
            case rel => exact ⟨k + 1, _, by omega, by go_num, rfl, Lib.hid (HN.out.symm.trans HK.out), q0, q1, q2, by omega, by (repeat' (first | (with_reducible exact Below.refl _ _) | (with_reducible assumption) | (with_reducible refine Below.alloc ?_ ?_ _) | (with_reducible refine below_drewN ?_ _) | (with_reducible refine Below.drew ?_) | (with_reducible refine Below.setCell ?_ ?_ _) | (with_reducible refine below_two ?_ (by with_reducible assumption)) | go_size))⟩
            case measure => simp [intOf]; omega
    · have hk4 : k = 4 := by omega
      subst hk4
      cases first
      · go_wp2_with (first | (refine wpList_store_blk rfl 23 _ _ rfl _ rfl rfl (k0) rfl (by kernel_rfl) (by simp [Value.oneCell']) ?_; intro w8 ho8 kb8; have kc8 := kb8.cell))
        exact bodyPost_ret (v := .tuple #[.agg #[.int .i64 0, .int .i64 0, .int .i64 0, .int .i64 0, .int .i64 0, .int .i64 0, .int .i64 0], .int .i64 150]) (by simp [results, Try.results8, go_sem, kc8]) rfl ⟨by rw [← HK.out]; rfl, below_only hw ho8 (Nat.le_refl _)⟩
      · rename_i x
        have c2 := k2.cell
        simp only [Option.getD_some, layC] at c2
        go_wp2_with (first | (refine wpList_store_blk rfl 23 _ _ rfl _ rfl rfl (k0) rfl (by kernel_rfl) (by simp [Value.oneCell']) ?_; intro w8 ho8 kb8; have kc8 := kb8.cell))
        exact bodyPost_ret (v := .tuple #[.agg #[.int .i64 x.sz, .int .i64 x.al, .int .i64 x.st, .int .i64 x.off, .int .i64 x.ord, .int .i64 x.obj, .int .i64 x.was], .int .i64 0]) (by simp [results, Try.results8, go_sem, kc8]) rfl ⟨by rw [← HK.out]; rfl, below_only hw ho8 (Nat.le_refl _)⟩

set_option maxHeartbeats 4000000 in
theorem of_ok10 (s a st off : Int) (h1 : 1 ≤ s) (h2 : s ≤ 2048) (h3 : 1 ≤ a) (h4 : a ≤ 64) (h8 : 8 < a) (hb : (bits .and .i64 a (a - 1) != 0) = false) (HOF : Hid (upI 8 a = off)) (ho8 : 8 ≤ off ∧ off ≤ 8 + a - 1) (HS : Hid (upI (s + (off + 8)) a = st)) (hst0 : 1 ≤ st ∧ st ≤ 100000) (R : Lay × Int) (HR : Hid (scan ⟨s, a, st, off, 0, 0, 0⟩ 4 0 none = R)) (w : World) : Calls Try.prog 8 #[.int .i64 s, .int .i64 a, .bool true] w fun e w' =>
    e = .returned (.tuple #[layV R.1, .int .i64 R.2]) ∧ Below w.heap.size w w' := by
  have eO := HOF.out
  have eS := HS.out
  go_enter Try.func8, Try.ntmps8
  go_wp2_with (first | (go_at_call 16; refine (up_any _ _ ?_ ?_ ?_ ?_ _).mono ?_; omega; omega; omega; omega; rintro e w1 ⟨rfl, rfl⟩))
  clear eO eS HOF HS ho8
  go_loopw [54, 10] (fun j fd wr => OfRel w.heap.size w s a st off R j fd wr) (fun j _ _ => 4 - (intOf j).toNat)
  case atStart => exact ⟨0, none, by omega, rfl, rfl, HR, (((Blk.new w _ _).alloc _).alloc _), (Blk.new2 w _ 23 _).alloc _, Blk.new3 w _ _ 23 _, by go_size, by (repeat' (first | (with_reducible exact Below.refl _ _) | (with_reducible assumption) | (with_reducible refine Below.alloc ?_ ?_ _) | (with_reducible refine below_drewN ?_ _) | (with_reducible refine Below.drew ?_) | (with_reducible refine Below.setCell ?_ ?_ _) | (with_reducible refine below_two ?_ (by with_reducible assumption)) | go_size))⟩
  case round =>
    obtain ⟨k, first, hk, rfl, rfl, HK, k0, k1, k2, hz, hw⟩ := hrel
    have c1 := k1.cell
    unfold layC at c1
    by_cases hlt : k < 4
    · obtain ⟨ob, hob⟩ : ∃ ob, (slabF ⟨s, a, st, off, 0, 0, 0⟩ k).obj = ob := ⟨_, rfl⟩
      obtain ⟨wa, hwa⟩ : ∃ wa, (slabF ⟨s, a, st, off, 0, 0, 0⟩ k).was = wa := ⟨_, rfl⟩
      have HO := Lib.hid hob
      have HW := Lib.hid hwa
      clear hob hwa
      have hbd := was_bd (l := ⟨s, a, st, off, 0, 0, 0⟩) hst0.1 k
      rw [HW.out] at hbd
      have hpow := bytes_le hlt
      by_cases ho : ob = 0
      · have HN := Lib.hid (scan_zero (first := first) hlt HO.out ho)
        go_wp2_with (first | (go_at_call 17; refine (slab_at s a st off k ob wa (by omega) hst0.1 hst0.2 HO.out HW.out _).mono ?_; rintro e w2 ⟨rfl, hb2⟩; obtain ⟨hz2, hc2, hf2⟩ := bcellB hb2 (w.heap.size + 3) (by go_size)))
        go_roundw
        case rel => exact ⟨k + 1, first, by omega, by go_num, rfl, Lib.hid (HN.out.symm.trans HK.out), (k0.below hb2).alloc _, (k1.below hb2).alloc _, (k2.below hb2).alloc _, by go_size, by (repeat' (first | (with_reducible exact Below.refl _ _) | (with_reducible assumption) | (with_reducible refine Below.alloc ?_ ?_ _) | (with_reducible refine below_drewN ?_ _) | (with_reducible refine Below.drew ?_) | (with_reducible refine Below.setCell ?_ ?_ _) | (with_reducible refine below_two ?_ (by with_reducible assumption)) | go_size))⟩
        case measure => simp [intOf]; omega
      · have hwp := wrap_bytes hlt
        have hly := Lib.hid (lay_of (s := s) (a := a) (st := st) (off := off) HO.out HW.out)
        by_cases hg : wa * 8 ≤ bytesO k
        · have HN := Lib.hid (scan_good (first := first) hlt HO.out ho HW.out hg)
          rw [← hwp] at hg
          clear hwp
          go_wp2_with (first | (go_at_call 17; refine (slab_at s a st off k ob wa (by omega) hst0.1 hst0.2 HO.out HW.out _).mono ?_; rintro e w2 ⟨rfl, hb2⟩; obtain ⟨hz2, hc2, hf2⟩ := bcellB hb2 (w.heap.size + 3) (by go_size)))
          (refine wp_region_ext (w2.heap.size + 1) (by kernel_rfl) (by kernel_rfl) (by go_size) (fun hxc hxf hxh hxn => ?_); (repeat (first | go_big_quiet_step (fail) | quiet_step (fail))); refine wpQuiet_nil ?_; intro w1 hs1; clear hxc hxf hxh hxn; obtain ⟨hb1, hz1, hc1, hf1⟩ := ext_known hs1 (w2.heap.size + 1) (by go_size); clear hs1)
          have q0 := ((k0.below hb2).alloc _).below hb1
          go_wp2_with (first | (refine wpList_store_blk rfl 23 _ _ rfl _ rfl rfl (q0) rfl (by kernel_rfl) (by simp [Value.oneCell']) ?_; intro w8 ho8 kb8; have kc8 := kb8.cell))
          exact bodyPost_ret (v := .tuple #[.agg #[.int .i64 s, .int .i64 a, .int .i64 st, .int .i64 off, .int .i64 k, .int .i64 ob, .int .i64 wa], .int .i64 0]) (by simp [results, Try.results8, go_sem, kc8]) rfl ⟨by rw [← HK.out, HN.out, hly.out], below_only (by (repeat' (first | (with_reducible exact Below.refl _ _) | (with_reducible assumption) | (with_reducible refine Below.alloc ?_ ?_ _) | (with_reducible refine below_drewN ?_ _) | (with_reducible refine Below.drew ?_) | (with_reducible refine Below.setCell ?_ ?_ _) | (with_reducible refine below_two ?_ (by with_reducible assumption)) | go_size))) ho8 (Nat.le_refl _)⟩
        · cases first
          · have HN := Lib.hid (scan_first hlt HO.out ho HW.out hg)
            rw [← hwp] at hg
            clear hwp
            go_wp2_with (first | (go_at_call 17; refine (slab_at s a st off k ob wa (by omega) hst0.1 hst0.2 HO.out HW.out _).mono ?_; rintro e w2 ⟨rfl, hb2⟩; obtain ⟨hz2, hc2, hf2⟩ := bcellB hb2 (w.heap.size + 3) (by go_size)))
            (refine wp_region_ext (w2.heap.size + 1) (by kernel_rfl) (by kernel_rfl) (by go_size) (fun hxc hxf hxh hxn => ?_); (repeat (first | go_big_quiet_step (fail) | quiet_step (fail))); refine wpQuiet_nil ?_; intro w1 hs1; clear hxc hxf hxh hxn; obtain ⟨hb1, hz1, hc1, hf1⟩ := ext_known hs1 (w2.heap.size + 1) (by go_size); clear hs1)
            have q0 := ((k0.below hb2).alloc _).below hb1
            have q1 := ((k1.below hb2).alloc _).below hb1
            have q2 := ((k2.below hb2).alloc _).below hb1
            go_wp2_with (first | (refine wpList_store_blk rfl 23 _ _ rfl _ rfl rfl (q2) rfl (by kernel_rfl) (by simp [Value.oneCell']) ?_; intro w8 ho8 kb8; have kc8 := kb8.cell))
            go_roundw
            case rel => exact ⟨k + 1, some (slabF ⟨s, a, st, off, 0, 0, 0⟩ k), by omega, by go_num, rfl, Lib.hid (HN.out.symm.trans HK.out), q0.only ho8 (by omega), q1.only ho8 (by omega), lay_blk hly.out kb8, by rw [ho8.size]; omega, below_only (by (repeat' (first | (with_reducible exact Below.refl _ _) | (with_reducible assumption) | (with_reducible refine Below.alloc ?_ ?_ _) | (with_reducible refine below_drewN ?_ _) | (with_reducible refine Below.drew ?_) | (with_reducible refine Below.setCell ?_ ?_ _) | (with_reducible refine below_two ?_ (by with_reducible assumption)) | go_size))) ho8 (by omega)⟩
            case measure => simp [intOf]; omega
          · rename_i x
            have HN := Lib.hid (scan_some (x := x) hlt HO.out ho HW.out hg)
            rw [← hwp] at hg
            clear hwp
            go_wp2_with (first | (go_at_call 17; refine (slab_at s a st off k ob wa (by omega) hst0.1 hst0.2 HO.out HW.out _).mono ?_; rintro e w2 ⟨rfl, hb2⟩; obtain ⟨hz2, hc2, hf2⟩ := bcellB hb2 (w.heap.size + 3) (by go_size)))
            (refine wp_region_ext (w2.heap.size + 1) (by kernel_rfl) (by kernel_rfl) (by go_size) (fun hxc hxf hxh hxn => ?_); (repeat (first | go_big_quiet_step (fail) | quiet_step (fail))); refine wpQuiet_nil ?_; intro w1 hs1; clear hxc hxf hxh hxn; obtain ⟨hb1, hz1, hc1, hf1⟩ := ext_known hs1 (w2.heap.size + 1) (by go_size); clear hs1)
            have q0 := ((k0.below hb2).alloc _).below hb1
            have q1 := ((k1.below hb2).alloc _).below hb1
            have q2 := ((k2.below hb2).alloc _).below hb1
            go_wp2
            go_roundw
            case rel => exact ⟨k + 1, _, by omega, by go_num, rfl, Lib.hid (HN.out.symm.trans HK.out), q0, q1, q2, by omega, by (repeat' (first | (with_reducible exact Below.refl _ _) | (with_reducible assumption) | (with_reducible refine Below.alloc ?_ ?_ _) | (with_reducible refine below_drewN ?_ _) | (with_reducible refine Below.drew ?_) | (with_reducible refine Below.setCell ?_ ?_ _) | (with_reducible refine below_two ?_ (by with_reducible assumption)) | go_size))⟩
            case measure => simp [intOf]; omega
    · have hk4 : k = 4 := by omega
      subst hk4
      cases first
      · go_wp2_with (first | (refine wpList_store_blk rfl 23 _ _ rfl _ rfl rfl (k0) rfl (by kernel_rfl) (by simp [Value.oneCell']) ?_; intro w8 ho8 kb8; have kc8 := kb8.cell))
        exact bodyPost_ret (v := .tuple #[.agg #[.int .i64 0, .int .i64 0, .int .i64 0, .int .i64 0, .int .i64 0, .int .i64 0, .int .i64 0], .int .i64 150]) (by simp [results, Try.results8, go_sem, kc8]) rfl ⟨by rw [← HK.out]; rfl, below_only hw ho8 (Nat.le_refl _)⟩
      · rename_i x
        have c2 := k2.cell
        simp only [Option.getD_some, layC] at c2
        go_wp2_with (first | (refine wpList_store_blk rfl 23 _ _ rfl _ rfl rfl (k0) rfl (by kernel_rfl) (by simp [Value.oneCell']) ?_; intro w8 ho8 kb8; have kc8 := kb8.cell))
        exact bodyPost_ret (v := .tuple #[.agg #[.int .i64 x.sz, .int .i64 x.al, .int .i64 x.st, .int .i64 x.off, .int .i64 x.ord, .int .i64 x.obj, .int .i64 x.was], .int .i64 0]) (by simp [results, Try.results8, go_sem, kc8]) rfl ⟨by rw [← HK.out]; rfl, below_only hw ho8 (Nat.le_refl _)⟩

set_option maxHeartbeats 4000000 in
theorem of_ok11 (s a st off : Int) (h1 : 1 ≤ s) (h2 : s ≤ 2048) (h3 : 1 ≤ a) (h4 : a ≤ 64) (h8 : a ≤ 8) (hb : (bits .and .i64 a (a - 1) != 0) = false) (HOF : Hid (upI 8 a = off)) (ho8 : 8 ≤ off ∧ off ≤ 8 + a - 1) (HS : Hid (upI (s + (off + 8)) 8 = st)) (hst0 : 1 ≤ st ∧ st ≤ 100000) (R : Lay × Int) (HR : Hid (scan ⟨s, a, st, off, 0, 0, 0⟩ 4 0 none = R)) (w : World) : Calls Try.prog 8 #[.int .i64 s, .int .i64 a, .bool true] w fun e w' =>
    e = .returned (.tuple #[layV R.1, .int .i64 R.2]) ∧ Below w.heap.size w w' := by
  have eO := HOF.out
  have eS := HS.out
  go_enter Try.func8, Try.ntmps8
  go_wp2_with (first | (go_at_call 16; refine (up_any _ _ ?_ ?_ ?_ ?_ _).mono ?_; omega; omega; omega; omega; rintro e w1 ⟨rfl, rfl⟩))
  clear eO eS HOF HS ho8
  go_loopw [54, 10] (fun j fd wr => OfRel w.heap.size w s a st off R j fd wr) (fun j _ _ => 4 - (intOf j).toNat)
  case atStart => exact ⟨0, none, by omega, rfl, rfl, HR, (((Blk.new w _ _).alloc _).alloc _), (Blk.new2 w _ 23 _).alloc _, Blk.new3 w _ _ 23 _, by go_size, by (repeat' (first | (with_reducible exact Below.refl _ _) | (with_reducible assumption) | (with_reducible refine Below.alloc ?_ ?_ _) | (with_reducible refine below_drewN ?_ _) | (with_reducible refine Below.drew ?_) | (with_reducible refine Below.setCell ?_ ?_ _) | (with_reducible refine below_two ?_ (by with_reducible assumption)) | go_size))⟩
  case round =>
    obtain ⟨k, first, hk, rfl, rfl, HK, k0, k1, k2, hz, hw⟩ := hrel
    have c1 := k1.cell
    unfold layC at c1
    by_cases hlt : k < 4
    · obtain ⟨ob, hob⟩ : ∃ ob, (slabF ⟨s, a, st, off, 0, 0, 0⟩ k).obj = ob := ⟨_, rfl⟩
      obtain ⟨wa, hwa⟩ : ∃ wa, (slabF ⟨s, a, st, off, 0, 0, 0⟩ k).was = wa := ⟨_, rfl⟩
      have HO := Lib.hid hob
      have HW := Lib.hid hwa
      clear hob hwa
      have hbd := was_bd (l := ⟨s, a, st, off, 0, 0, 0⟩) hst0.1 k
      rw [HW.out] at hbd
      have hpow := bytes_le hlt
      by_cases ho : ob = 0
      · have HN := Lib.hid (scan_zero (first := first) hlt HO.out ho)
        go_wp2_with (first | (go_at_call 17; refine (slab_at s a st off k ob wa (by omega) hst0.1 hst0.2 HO.out HW.out _).mono ?_; rintro e w2 ⟨rfl, hb2⟩; obtain ⟨hz2, hc2, hf2⟩ := bcellB hb2 (w.heap.size + 3) (by go_size)))
        go_roundw
        case rel => exact ⟨k + 1, first, by omega, by go_num, rfl, Lib.hid (HN.out.symm.trans HK.out), (k0.below hb2).alloc _, (k1.below hb2).alloc _, (k2.below hb2).alloc _, by go_size, by (repeat' (first | (with_reducible exact Below.refl _ _) | (with_reducible assumption) | (with_reducible refine Below.alloc ?_ ?_ _) | (with_reducible refine below_drewN ?_ _) | (with_reducible refine Below.drew ?_) | (with_reducible refine Below.setCell ?_ ?_ _) | (with_reducible refine below_two ?_ (by with_reducible assumption)) | go_size))⟩
        case measure => simp [intOf]; omega
      · have hwp := wrap_bytes hlt
        have hly := Lib.hid (lay_of (s := s) (a := a) (st := st) (off := off) HO.out HW.out)
        by_cases hg : wa * 8 ≤ bytesO k
        · have HN := Lib.hid (scan_good (first := first) hlt HO.out ho HW.out hg)
          rw [← hwp] at hg
          clear hwp
          go_wp2_with (first | (go_at_call 17; refine (slab_at s a st off k ob wa (by omega) hst0.1 hst0.2 HO.out HW.out _).mono ?_; rintro e w2 ⟨rfl, hb2⟩; obtain ⟨hz2, hc2, hf2⟩ := bcellB hb2 (w.heap.size + 3) (by go_size)))
          (refine wp_region_ext (w2.heap.size + 1) (by kernel_rfl) (by kernel_rfl) (by go_size) (fun hxc hxf hxh hxn => ?_); (repeat (first | go_big_quiet_step (fail) | quiet_step (fail))); refine wpQuiet_nil ?_; intro w1 hs1; clear hxc hxf hxh hxn; obtain ⟨hb1, hz1, hc1, hf1⟩ := ext_known hs1 (w2.heap.size + 1) (by go_size); clear hs1)
          have q0 := ((k0.below hb2).alloc _).below hb1
          go_wp2_with (first | (refine wpList_store_blk rfl 23 _ _ rfl _ rfl rfl (q0) rfl (by kernel_rfl) (by simp [Value.oneCell']) ?_; intro w8 ho8 kb8; have kc8 := kb8.cell))
          exact bodyPost_ret (v := .tuple #[.agg #[.int .i64 s, .int .i64 a, .int .i64 st, .int .i64 off, .int .i64 k, .int .i64 ob, .int .i64 wa], .int .i64 0]) (by simp [results, Try.results8, go_sem, kc8]) rfl ⟨by rw [← HK.out, HN.out, hly.out], below_only (by (repeat' (first | (with_reducible exact Below.refl _ _) | (with_reducible assumption) | (with_reducible refine Below.alloc ?_ ?_ _) | (with_reducible refine below_drewN ?_ _) | (with_reducible refine Below.drew ?_) | (with_reducible refine Below.setCell ?_ ?_ _) | (with_reducible refine below_two ?_ (by with_reducible assumption)) | go_size))) ho8 (Nat.le_refl _)⟩
        · cases first
          · have HN := Lib.hid (scan_first hlt HO.out ho HW.out hg)
            rw [← hwp] at hg
            clear hwp
            go_wp2_with (first | (go_at_call 17; refine (slab_at s a st off k ob wa (by omega) hst0.1 hst0.2 HO.out HW.out _).mono ?_; rintro e w2 ⟨rfl, hb2⟩; obtain ⟨hz2, hc2, hf2⟩ := bcellB hb2 (w.heap.size + 3) (by go_size)))
            (refine wp_region_ext (w2.heap.size + 1) (by kernel_rfl) (by kernel_rfl) (by go_size) (fun hxc hxf hxh hxn => ?_); (repeat (first | go_big_quiet_step (fail) | quiet_step (fail))); refine wpQuiet_nil ?_; intro w1 hs1; clear hxc hxf hxh hxn; obtain ⟨hb1, hz1, hc1, hf1⟩ := ext_known hs1 (w2.heap.size + 1) (by go_size); clear hs1)
            have q0 := ((k0.below hb2).alloc _).below hb1
            have q1 := ((k1.below hb2).alloc _).below hb1
            have q2 := ((k2.below hb2).alloc _).below hb1
            go_wp2_with (first | (refine wpList_store_blk rfl 23 _ _ rfl _ rfl rfl (q2) rfl (by kernel_rfl) (by simp [Value.oneCell']) ?_; intro w8 ho8 kb8; have kc8 := kb8.cell))
            go_roundw
            case rel => exact ⟨k + 1, some (slabF ⟨s, a, st, off, 0, 0, 0⟩ k), by omega, by go_num, rfl, Lib.hid (HN.out.symm.trans HK.out), q0.only ho8 (by omega), q1.only ho8 (by omega), lay_blk hly.out kb8, by rw [ho8.size]; omega, below_only (by (repeat' (first | (with_reducible exact Below.refl _ _) | (with_reducible assumption) | (with_reducible refine Below.alloc ?_ ?_ _) | (with_reducible refine below_drewN ?_ _) | (with_reducible refine Below.drew ?_) | (with_reducible refine Below.setCell ?_ ?_ _) | (with_reducible refine below_two ?_ (by with_reducible assumption)) | go_size))) ho8 (by omega)⟩
            case measure => simp [intOf]; omega
          · rename_i x
            have HN := Lib.hid (scan_some (x := x) hlt HO.out ho HW.out hg)
            rw [← hwp] at hg
            clear hwp
            go_wp2_with (first | (go_at_call 17; refine (slab_at s a st off k ob wa (by omega) hst0.1 hst0.2 HO.out HW.out _).mono ?_; rintro e w2 ⟨rfl, hb2⟩; obtain ⟨hz2, hc2, hf2⟩ := bcellB hb2 (w.heap.size + 3) (by go_size)))
            (refine wp_region_ext (w2.heap.size + 1) (by kernel_rfl) (by kernel_rfl) (by go_size) (fun hxc hxf hxh hxn => ?_); (repeat (first | go_big_quiet_step (fail) | quiet_step (fail))); refine wpQuiet_nil ?_; intro w1 hs1; clear hxc hxf hxh hxn; obtain ⟨hb1, hz1, hc1, hf1⟩ := ext_known hs1 (w2.heap.size + 1) (by go_size); clear hs1)
            have q0 := ((k0.below hb2).alloc _).below hb1
            have q1 := ((k1.below hb2).alloc _).below hb1
            have q2 := ((k2.below hb2).alloc _).below hb1
            go_wp2
            go_roundw
            case rel => exact ⟨k + 1, _, by omega, by go_num, rfl, Lib.hid (HN.out.symm.trans HK.out), q0, q1, q2, by omega, by (repeat' (first | (with_reducible exact Below.refl _ _) | (with_reducible assumption) | (with_reducible refine Below.alloc ?_ ?_ _) | (with_reducible refine below_drewN ?_ _) | (with_reducible refine Below.drew ?_) | (with_reducible refine Below.setCell ?_ ?_ _) | (with_reducible refine below_two ?_ (by with_reducible assumption)) | go_size))⟩
            case measure => simp [intOf]; omega
    · have hk4 : k = 4 := by omega
      subst hk4
      cases first
      · go_wp2_with (first | (refine wpList_store_blk rfl 23 _ _ rfl _ rfl rfl (k0) rfl (by kernel_rfl) (by simp [Value.oneCell']) ?_; intro w8 ho8 kb8; have kc8 := kb8.cell))
        exact bodyPost_ret (v := .tuple #[.agg #[.int .i64 0, .int .i64 0, .int .i64 0, .int .i64 0, .int .i64 0, .int .i64 0, .int .i64 0], .int .i64 150]) (by simp [results, Try.results8, go_sem, kc8]) rfl ⟨by rw [← HK.out]; rfl, below_only hw ho8 (Nat.le_refl _)⟩
      · rename_i x
        have c2 := k2.cell
        simp only [Option.getD_some, layC] at c2
        go_wp2_with (first | (refine wpList_store_blk rfl 23 _ _ rfl _ rfl rfl (k0) rfl (by kernel_rfl) (by simp [Value.oneCell']) ?_; intro w8 ho8 kb8; have kc8 := kb8.cell))
        exact bodyPost_ret (v := .tuple #[.agg #[.int .i64 x.sz, .int .i64 x.al, .int .i64 x.st, .int .i64 x.off, .int .i64 x.ord, .int .i64 x.obj, .int .i64 x.was], .int .i64 0]) (by simp [results, Try.results8, go_sem, kc8]) rfl ⟨by rw [← HK.out]; rfl, below_only hw ho8 (Nat.le_refl _)⟩

theorem of_ok (s a st off : Int) (g : Bool) (h1 : 1 ≤ s) (h2 : s ≤ 2048) (h3 : 1 ≤ a) (h4 : a ≤ 64) (hb : (bits .and .i64 a (a - 1) != 0) = false) (ho : offOf a g = off) (hs : upI (netOf s a g) (max 8 a) = st) (R : Lay × Int) (HR : Hid (scan ⟨s, a, st, off, 0, 0, 0⟩ 4 0 none = R)) (w : World) : Calls Try.prog 8 #[.int .i64 s, .int .i64 a, .bool g] w fun e w' =>
    e = .returned (.tuple #[layV R.1, .int .i64 R.2]) ∧ Below w.heap.size w w' := by
  have ho8 := up_bd (n := 8) h3
  have hst0 : 1 ≤ st ∧ st ≤ 100000 := by
    have h5 := up_bd (n := netOf s a g) (m := max 8 a) (by omega)
    rw [hs] at h5
    unfold netOf at h5
    split at h5 <;> omega
  cases g
  · have e1 : off = 0 := ho.symm
    subst e1
    rcases Int.lt_or_le 8 a with h8 | h8
    · rw [show max 8 a = a by omega] at hs
      exact of_ok00 s a st h1 h2 h3 h4 h8 hb (Lib.hid hs) hst0 R HR w
    · rw [show max 8 a = 8 by omega] at hs
      exact of_ok01 s a st h1 h2 h3 h4 h8 hb (Lib.hid hs) hst0 R HR w
  · replace ho : upI 8 a = off := ho
    rw [ho] at ho8
    rw [netOf, if_pos rfl, ho] at hs
    rcases Int.lt_or_le 8 a with h8 | h8
    · rw [show max 8 a = a by omega] at hs
      exact of_ok10 s a st off h1 h2 h3 h4 h8 hb (Lib.hid ho) ⟨ho8.1, ho8.2.1⟩ (Lib.hid hs) hst0 R HR w
    · rw [show max 8 a = 8 by omega] at hs
      exact of_ok11 s a st off h1 h2 h3 h4 h8 hb (Lib.hid ho) ⟨ho8.1, ho8.2.1⟩ (Lib.hid hs) hst0 R HR w

end Go.Proofs.Ytibpaomkaknbhaa
