/-
  The walk of the second text's Of, of what may be.
-/
import Derived.Test.YtibpaomkaknbhaaWalkH
namespace Go.Proofs.Ytibpaomkaknbhaa
open Go.RowKit

set_option maxHeartbeats 4000000 in
theorem refOf_ok00 (s a st : Int) (h1 : 1 ≤ s) (h2 : s ≤ 2048) (h3 : 1 ≤ a) (h4 : a ≤ 64) (h8 : 8 < a) (hal : alB a = true) (HS : Hid (upI (s) a = st)) (hst0 : 1 ≤ st ∧ st ≤ 100000) (R : Lay × Int) (HR : Hid (scan1 ⟨s, a, st, 0, 0, 0, 0⟩ 4 0 = R)) (w : World) : Calls Try.prog 9 #[.int .i64 s, .int .i64 a, .bool false] w fun e w' =>
    e = .returned (.tuple #[layV R.1, .int .i64 R.2]) ∧ Below w.heap.size w w' := by
  go_enter Try.func9, Try.ntmps9
  go_wp2_with (first | (go_at_call 19; refine (refUp_is (s) a st HS.out (by omega) (by omega) (by omega) (by omega) _).mono ?_; rintro e w1 ⟨rfl, rfl⟩) | (go_at_call 18; refine (aligned_is a hal _).mono ?_; rintro e w1 ⟨rfl, rfl⟩))
  go_loopw [10] (fun j wr => RefRel w.heap.size w s a st 0 R (fun k => scan1 ⟨s, a, st, 0, 0, 0, 0⟩ (4 - k) k) j wr) (fun j _ => 4 - (intOf j).toNat)
  case atStart => exact ⟨0, by omega, rfl, HR, (Blk.new w _ _).alloc _, Blk.new2 w _ 23 _, by go_size, by (repeat' (first | (with_reducible exact Below.refl _ _) | (with_reducible assumption) | (with_reducible refine Below.alloc ?_ ?_ _) | (with_reducible refine below_drewN ?_ _) | (with_reducible refine Below.drew ?_) | (with_reducible refine Below.setCell ?_ ?_ _) | (with_reducible refine below_two ?_ (by with_reducible assumption)) | go_size))⟩
  case round =>
    obtain ⟨k, hk, rfl, HK, k0, k1, hz, hw⟩ := hrel
    have c1 := k1.cell
    unfold layC at c1
    by_cases hlt : k < 4
    · obtain ⟨ob, hob⟩ : ∃ ob, (slabF ⟨s, a, st, 0, 0, 0, 0⟩ k).obj = ob := ⟨_, rfl⟩
      obtain ⟨wa, hwa⟩ : ∃ wa, (slabF ⟨s, a, st, 0, 0, 0, 0⟩ k).was = wa := ⟨_, rfl⟩
      have HO := Lib.hid hob
      have HW := Lib.hid hwa
      clear hob hwa
      have hbd := was_bd (l := ⟨s, a, st, 0, 0, 0, 0⟩) hst0.1 k
      have hsum := was_of ⟨s, a, st, 0, 0, 0, 0⟩ k
      have hob0 := obj_nn (l := ⟨s, a, st, 0, 0, 0, 0⟩) hst0.1 k
      rw [HW.out] at hbd hsum
      rw [HO.out] at hob0 hsum
      replace hsum : wa + ob * st = bytesO k := hsum
      have hpow := bytes_le hlt
      have hly := Lib.hid (lay_of (s := s) (a := a) (st := st) (off := 0) HO.out HW.out)
      by_cases hg : 0 < ob ∧ wa * 8 ≤ wa + ob * st
      · have HN := Lib.hid (scan1_good hlt HO.out HW.out hg)
        obtain ⟨hg1, hg2⟩ := hg
        have hq1 : 0 ≤ ob * st := by omega
        have hq2 : ob * st ≤ 2048 := by omega
        clear hsum
        by_cases hd : True
        · clear hd
          go_wp2_with (first | ((go_at_call 20; refine (refSlab_at s a st 0 k ob wa (by omega) hst0.1 hst0.2 HO.out HW.out _).mono ?_; rintro e w2 ⟨rfl, hb2⟩; obtain ⟨hz2, hc2, hf2⟩ := bcellB hb2 (w.heap.size + 2) (by go_size))) | ((refine wpList_store_blk rfl 23 _ _ rfl _ rfl rfl (((k0.below hb2).alloc _)) rfl (by kernel_rfl) (by simp [Value.oneCell']) ?_; intro w8 ho8 kb8; have kc8 := kb8.cell)))
          exact bodyPost_ret (v := .tuple #[.agg #[.int .i64 s, .int .i64 a, .int .i64 st, .int .i64 0, .int .i64 k, .int .i64 ob, .int .i64 wa], .int .i64 0]) (by simp [results, Try.results9, go_sem, kc8]) rfl ⟨by rw [← HK.out, HN.out, hly.out], below_only (by (repeat' (first | (with_reducible exact Below.refl _ _) | (with_reducible assumption) | (with_reducible refine Below.alloc ?_ ?_ _) | (with_reducible refine below_drewN ?_ _) | (with_reducible refine Below.drew ?_) | (with_reducible refine Below.setCell ?_ ?_ _) | (with_reducible refine below_two ?_ (by with_reducible assumption)) | go_size))) ho8 (Nat.le_refl _)⟩
        · exact absurd True.intro hd
      · have HN := Lib.hid (scan1_bad hlt HO.out HW.out hg)
        have hq1 : 0 ≤ ob * st := by omega
        have hq2 : ob * st ≤ 2048 := by omega
        clear hsum
        by_cases hg1 : 0 < ob
        · have hg2 : ¬ wa * 8 ≤ wa + ob * st := fun h => hg ⟨hg1, h⟩
          clear hg
          go_wp2_with (first | (go_at_call 20; refine (refSlab_at s a st 0 k ob wa (by omega) hst0.1 hst0.2 HO.out HW.out _).mono ?_; rintro e w2 ⟨rfl, hb2⟩; obtain ⟨hz2, hc2, hf2⟩ := bcellB hb2 (w.heap.size + 2) (by go_size)))
          go_roundw
          case rel => exact ⟨k + 1, by omega, by go_num, Lib.hid (HN.out.symm.trans HK.out), (k0.below hb2).alloc _, (k1.below hb2).alloc _, by go_size, by (repeat' (first | (with_reducible exact Below.refl _ _) | (with_reducible assumption) | (with_reducible refine Below.alloc ?_ ?_ _) | (with_reducible refine below_drewN ?_ _) | (with_reducible refine Below.drew ?_) | (with_reducible refine Below.setCell ?_ ?_ _) | (with_reducible refine below_two ?_ (by with_reducible assumption)) | go_size))⟩
          case measure => simp [intOf]; omega
        · clear hg
          go_wp2_with (first | (go_at_call 20; refine (refSlab_at s a st 0 k ob wa (by omega) hst0.1 hst0.2 HO.out HW.out _).mono ?_; rintro e w2 ⟨rfl, hb2⟩; obtain ⟨hz2, hc2, hf2⟩ := bcellB hb2 (w.heap.size + 2) (by go_size)))
          go_roundw
          case rel => exact ⟨k + 1, by omega, by go_num, Lib.hid (HN.out.symm.trans HK.out), (k0.below hb2).alloc _, (k1.below hb2).alloc _, by go_size, by (repeat' (first | (with_reducible exact Below.refl _ _) | (with_reducible assumption) | (with_reducible refine Below.alloc ?_ ?_ _) | (with_reducible refine below_drewN ?_ _) | (with_reducible refine Below.drew ?_) | (with_reducible refine Below.setCell ?_ ?_ _) | (with_reducible refine below_two ?_ (by with_reducible assumption)) | go_size))⟩
          case measure => simp [intOf]; omega
    · have hk4 : k = 4 := by omega
      subst hk4
      have HK2 : Hid (scan2 ⟨s, a, st, 0, 0, 0, 0⟩ 4 0 = R) := Lib.hid HK.out
      go_wp2
      obtain ⟨wo, rfl⟩ : ∃ wo : World, wo = wr := ⟨_, rfl⟩
      clear c1
      go_loopw [12] (fun j wr => RefRel w.heap.size w s a st 0 R (fun k => scan2 ⟨s, a, st, 0, 0, 0, 0⟩ (4 - k) k) j wr) (fun j _ => 4 - (intOf j).toNat)
      case atStart => exact ⟨0, by omega, rfl, HK2, k0, k1, hz, hw⟩
      case round =>
        clear HK HK2 k0 k1 hz hw hlt hk
        obtain ⟨k, hk, rfl, HK, k0, k1, hz, hw⟩ := hrel
        have c1 := k1.cell
        unfold layC at c1
        by_cases hlt : k < 4
        · obtain ⟨ob, hob⟩ : ∃ ob, (slabF ⟨s, a, st, 0, 0, 0, 0⟩ k).obj = ob := ⟨_, rfl⟩
          obtain ⟨wa, hwa⟩ : ∃ wa, (slabF ⟨s, a, st, 0, 0, 0, 0⟩ k).was = wa := ⟨_, rfl⟩
          have HO := Lib.hid hob
          have HW := Lib.hid hwa
          clear hob hwa
          have hbd := was_bd (l := ⟨s, a, st, 0, 0, 0, 0⟩) hst0.1 k
          have hsum := was_of ⟨s, a, st, 0, 0, 0, 0⟩ k
          have hob0 := obj_nn (l := ⟨s, a, st, 0, 0, 0, 0⟩) hst0.1 k
          rw [HW.out] at hbd hsum
          rw [HO.out] at hob0 hsum
          replace hsum : wa + ob * st = bytesO k := hsum
          have hpow := bytes_le hlt
          have hly := Lib.hid (lay_of (s := s) (a := a) (st := st) (off := 0) HO.out HW.out)
          clear hsum
          by_cases hg : 0 < ob
          · have HN := Lib.hid (scan2_good hlt HO.out hg)
            go_wp2_with (first | ((go_at_call 20; refine (refSlab_at s a st 0 k ob wa (by omega) hst0.1 hst0.2 HO.out HW.out _).mono ?_; rintro e w2 ⟨rfl, hb2⟩; obtain ⟨hz2, hc2, hf2⟩ := bcellB hb2 (w.heap.size + 2) (by go_size))) | ((refine wpList_store_blk rfl 23 _ _ rfl _ rfl rfl (((k0.below hb2).alloc _)) rfl (by kernel_rfl) (by simp [Value.oneCell']) ?_; intro w8 ho8 kb8; have kc8 := kb8.cell)))
            exact bodyPost_ret (v := .tuple #[.agg #[.int .i64 s, .int .i64 a, .int .i64 st, .int .i64 0, .int .i64 k, .int .i64 ob, .int .i64 wa], .int .i64 0]) (by simp [results, Try.results9, go_sem, kc8]) rfl ⟨by rw [← HK.out, HN.out, hly.out], below_only (by (repeat' (first | (with_reducible exact Below.refl _ _) | (with_reducible assumption) | (with_reducible refine Below.alloc ?_ ?_ _) | (with_reducible refine below_drewN ?_ _) | (with_reducible refine Below.drew ?_) | (with_reducible refine Below.setCell ?_ ?_ _) | (with_reducible refine below_two ?_ (by with_reducible assumption)) | go_size))) ho8 (Nat.le_refl _)⟩
          · have HN := Lib.hid (scan2_bad hlt HO.out hg)
            go_wp2_with (first | (go_at_call 20; refine (refSlab_at s a st 0 k ob wa (by omega) hst0.1 hst0.2 HO.out HW.out _).mono ?_; rintro e w2 ⟨rfl, hb2⟩; obtain ⟨hz2, hc2, hf2⟩ := bcellB hb2 (w.heap.size + 2) (by go_size)))
            go_roundw
            case rel => exact ⟨k + 1, by omega, by go_num, Lib.hid (HN.out.symm.trans HK.out), (k0.below hb2).alloc _, (k1.below hb2).alloc _, by go_size, by (repeat' (first | (with_reducible exact Below.refl _ _) | (with_reducible assumption) | (with_reducible refine Below.alloc ?_ ?_ _) | (with_reducible refine below_drewN ?_ _) | (with_reducible refine Below.drew ?_) | (with_reducible refine Below.setCell ?_ ?_ _) | (with_reducible refine below_two ?_ (by with_reducible assumption)) | go_size))⟩
            case measure => simp [intOf]; omega
        · have hk4 : k = 4 := by omega
          subst hk4
          go_wp2_with (first | (refine wpList_store_blk rfl 23 _ _ rfl _ rfl rfl (k0) rfl (by kernel_rfl) (by simp [Value.oneCell']) ?_; intro w8 ho8 kb8; have kc8 := kb8.cell))
          exact bodyPost_ret (v := .tuple #[.agg #[.int .i64 0, .int .i64 0, .int .i64 0, .int .i64 0, .int .i64 0, .int .i64 0, .int .i64 0], .int .i64 150]) (by simp [results, Try.results9, go_sem, kc8]) rfl ⟨by rw [← HK.out]; rfl, below_only hw ho8 (Nat.le_refl _)⟩

set_option maxHeartbeats 4000000 in
theorem refOf_ok01 (s a st : Int) (h1 : 1 ≤ s) (h2 : s ≤ 2048) (h3 : 1 ≤ a) (h4 : a ≤ 64) (h8 : a ≤ 8) (hal : alB a = true) (HS : Hid (upI (s) 8 = st)) (hst0 : 1 ≤ st ∧ st ≤ 100000) (R : Lay × Int) (HR : Hid (scan1 ⟨s, a, st, 0, 0, 0, 0⟩ 4 0 = R)) (w : World) : Calls Try.prog 9 #[.int .i64 s, .int .i64 a, .bool false] w fun e w' =>
    e = .returned (.tuple #[layV R.1, .int .i64 R.2]) ∧ Below w.heap.size w w' := by
  go_enter Try.func9, Try.ntmps9
  go_wp2_with (first | (go_at_call 19; refine (refUp_is (s) 8 st HS.out (by omega) (by omega) (by omega) (by omega) _).mono ?_; rintro e w1 ⟨rfl, rfl⟩) | (go_at_call 18; refine (aligned_is a hal _).mono ?_; rintro e w1 ⟨rfl, rfl⟩))
  go_loopw [10] (fun j wr => RefRel w.heap.size w s a st 0 R (fun k => scan1 ⟨s, a, st, 0, 0, 0, 0⟩ (4 - k) k) j wr) (fun j _ => 4 - (intOf j).toNat)
  case atStart => exact ⟨0, by omega, rfl, HR, (Blk.new w _ _).alloc _, Blk.new2 w _ 23 _, by go_size, by (repeat' (first | (with_reducible exact Below.refl _ _) | (with_reducible assumption) | (with_reducible refine Below.alloc ?_ ?_ _) | (with_reducible refine below_drewN ?_ _) | (with_reducible refine Below.drew ?_) | (with_reducible refine Below.setCell ?_ ?_ _) | (with_reducible refine below_two ?_ (by with_reducible assumption)) | go_size))⟩
  case round =>
    obtain ⟨k, hk, rfl, HK, k0, k1, hz, hw⟩ := hrel
    have c1 := k1.cell
    unfold layC at c1
    by_cases hlt : k < 4
    · obtain ⟨ob, hob⟩ : ∃ ob, (slabF ⟨s, a, st, 0, 0, 0, 0⟩ k).obj = ob := ⟨_, rfl⟩
      obtain ⟨wa, hwa⟩ : ∃ wa, (slabF ⟨s, a, st, 0, 0, 0, 0⟩ k).was = wa := ⟨_, rfl⟩
      have HO := Lib.hid hob
      have HW := Lib.hid hwa
      clear hob hwa
      have hbd := was_bd (l := ⟨s, a, st, 0, 0, 0, 0⟩) hst0.1 k
      have hsum := was_of ⟨s, a, st, 0, 0, 0, 0⟩ k
      have hob0 := obj_nn (l := ⟨s, a, st, 0, 0, 0, 0⟩) hst0.1 k
      rw [HW.out] at hbd hsum
      rw [HO.out] at hob0 hsum
      replace hsum : wa + ob * st = bytesO k := hsum
      have hpow := bytes_le hlt
      have hly := Lib.hid (lay_of (s := s) (a := a) (st := st) (off := 0) HO.out HW.out)
      by_cases hg : 0 < ob ∧ wa * 8 ≤ wa + ob * st
      · have HN := Lib.hid (scan1_good hlt HO.out HW.out hg)
        obtain ⟨hg1, hg2⟩ := hg
        have hq1 : 0 ≤ ob * st := by omega
        have hq2 : ob * st ≤ 2048 := by omega
        clear hsum
        by_cases hd : True
        · clear hd
          go_wp2_with (first | ((go_at_call 20; refine (refSlab_at s a st 0 k ob wa (by omega) hst0.1 hst0.2 HO.out HW.out _).mono ?_; rintro e w2 ⟨rfl, hb2⟩; obtain ⟨hz2, hc2, hf2⟩ := bcellB hb2 (w.heap.size + 2) (by go_size))) | ((refine wpList_store_blk rfl 23 _ _ rfl _ rfl rfl (((k0.below hb2).alloc _)) rfl (by kernel_rfl) (by simp [Value.oneCell']) ?_; intro w8 ho8 kb8; have kc8 := kb8.cell)))
          exact bodyPost_ret (v := .tuple #[.agg #[.int .i64 s, .int .i64 a, .int .i64 st, .int .i64 0, .int .i64 k, .int .i64 ob, .int .i64 wa], .int .i64 0]) (by simp [results, Try.results9, go_sem, kc8]) rfl ⟨by rw [← HK.out, HN.out, hly.out], below_only (by (repeat' (first | (with_reducible exact Below.refl _ _) | (with_reducible assumption) | (with_reducible refine Below.alloc ?_ ?_ _) | (with_reducible refine below_drewN ?_ _) | (with_reducible refine Below.drew ?_) | (with_reducible refine Below.setCell ?_ ?_ _) | (with_reducible refine below_two ?_ (by with_reducible assumption)) | go_size))) ho8 (Nat.le_refl _)⟩
        · exact absurd True.intro hd
      · have HN := Lib.hid (scan1_bad hlt HO.out HW.out hg)
        have hq1 : 0 ≤ ob * st := by omega
        have hq2 : ob * st ≤ 2048 := by omega
        clear hsum
        by_cases hg1 : 0 < ob
        · have hg2 : ¬ wa * 8 ≤ wa + ob * st := fun h => hg ⟨hg1, h⟩
          clear hg
          go_wp2_with (first | (go_at_call 20; refine (refSlab_at s a st 0 k ob wa (by omega) hst0.1 hst0.2 HO.out HW.out _).mono ?_; rintro e w2 ⟨rfl, hb2⟩; obtain ⟨hz2, hc2, hf2⟩ := bcellB hb2 (w.heap.size + 2) (by go_size)))
          go_roundw
          case rel => exact ⟨k + 1, by omega, by go_num, Lib.hid (HN.out.symm.trans HK.out), (k0.below hb2).alloc _, (k1.below hb2).alloc _, by go_size, by (repeat' (first | (with_reducible exact Below.refl _ _) | (with_reducible assumption) | (with_reducible refine Below.alloc ?_ ?_ _) | (with_reducible refine below_drewN ?_ _) | (with_reducible refine Below.drew ?_) | (with_reducible refine Below.setCell ?_ ?_ _) | (with_reducible refine below_two ?_ (by with_reducible assumption)) | go_size))⟩
          case measure => simp [intOf]; omega
        · clear hg
          go_wp2_with (first | (go_at_call 20; refine (refSlab_at s a st 0 k ob wa (by omega) hst0.1 hst0.2 HO.out HW.out _).mono ?_; rintro e w2 ⟨rfl, hb2⟩; obtain ⟨hz2, hc2, hf2⟩ := bcellB hb2 (w.heap.size + 2) (by go_size)))
          go_roundw
          case rel => exact ⟨k + 1, by omega, by go_num, Lib.hid (HN.out.symm.trans HK.out), (k0.below hb2).alloc _, (k1.below hb2).alloc _, by go_size, by (repeat' (first | (with_reducible exact Below.refl _ _) | (with_reducible assumption) | (with_reducible refine Below.alloc ?_ ?_ _) | (with_reducible refine below_drewN ?_ _) | (with_reducible refine Below.drew ?_) | (with_reducible refine Below.setCell ?_ ?_ _) | (with_reducible refine below_two ?_ (by with_reducible assumption)) | go_size))⟩
          case measure => simp [intOf]; omega
    · have hk4 : k = 4 := by omega
      subst hk4
      have HK2 : Hid (scan2 ⟨s, a, st, 0, 0, 0, 0⟩ 4 0 = R) := Lib.hid HK.out
      go_wp2
      obtain ⟨wo, rfl⟩ : ∃ wo : World, wo = wr := ⟨_, rfl⟩
      clear c1
      go_loopw [12] (fun j wr => RefRel w.heap.size w s a st 0 R (fun k => scan2 ⟨s, a, st, 0, 0, 0, 0⟩ (4 - k) k) j wr) (fun j _ => 4 - (intOf j).toNat)
      case atStart => exact ⟨0, by omega, rfl, HK2, k0, k1, hz, hw⟩
      case round =>
        clear HK HK2 k0 k1 hz hw hlt hk
        obtain ⟨k, hk, rfl, HK, k0, k1, hz, hw⟩ := hrel
        have c1 := k1.cell
        unfold layC at c1
        by_cases hlt : k < 4
        · obtain ⟨ob, hob⟩ : ∃ ob, (slabF ⟨s, a, st, 0, 0, 0, 0⟩ k).obj = ob := ⟨_, rfl⟩
          obtain ⟨wa, hwa⟩ : ∃ wa, (slabF ⟨s, a, st, 0, 0, 0, 0⟩ k).was = wa := ⟨_, rfl⟩
          have HO := Lib.hid hob
          have HW := Lib.hid hwa
          clear hob hwa
          have hbd := was_bd (l := ⟨s, a, st, 0, 0, 0, 0⟩) hst0.1 k
          have hsum := was_of ⟨s, a, st, 0, 0, 0, 0⟩ k
          have hob0 := obj_nn (l := ⟨s, a, st, 0, 0, 0, 0⟩) hst0.1 k
          rw [HW.out] at hbd hsum
          rw [HO.out] at hob0 hsum
          replace hsum : wa + ob * st = bytesO k := hsum
          have hpow := bytes_le hlt
          have hly := Lib.hid (lay_of (s := s) (a := a) (st := st) (off := 0) HO.out HW.out)
          clear hsum
          by_cases hg : 0 < ob
          · have HN := Lib.hid (scan2_good hlt HO.out hg)
            go_wp2_with (first | ((go_at_call 20; refine (refSlab_at s a st 0 k ob wa (by omega) hst0.1 hst0.2 HO.out HW.out _).mono ?_; rintro e w2 ⟨rfl, hb2⟩; obtain ⟨hz2, hc2, hf2⟩ := bcellB hb2 (w.heap.size + 2) (by go_size))) | ((refine wpList_store_blk rfl 23 _ _ rfl _ rfl rfl (((k0.below hb2).alloc _)) rfl (by kernel_rfl) (by simp [Value.oneCell']) ?_; intro w8 ho8 kb8; have kc8 := kb8.cell)))
            exact bodyPost_ret (v := .tuple #[.agg #[.int .i64 s, .int .i64 a, .int .i64 st, .int .i64 0, .int .i64 k, .int .i64 ob, .int .i64 wa], .int .i64 0]) (by simp [results, Try.results9, go_sem, kc8]) rfl ⟨by rw [← HK.out, HN.out, hly.out], below_only (by (repeat' (first | (with_reducible exact Below.refl _ _) | (with_reducible assumption) | (with_reducible refine Below.alloc ?_ ?_ _) | (with_reducible refine below_drewN ?_ _) | (with_reducible refine Below.drew ?_) | (with_reducible refine Below.setCell ?_ ?_ _) | (with_reducible refine below_two ?_ (by with_reducible assumption)) | go_size))) ho8 (Nat.le_refl _)⟩
          · have HN := Lib.hid (scan2_bad hlt HO.out hg)
            go_wp2_with (first | (go_at_call 20; refine (refSlab_at s a st 0 k ob wa (by omega) hst0.1 hst0.2 HO.out HW.out _).mono ?_; rintro e w2 ⟨rfl, hb2⟩; obtain ⟨hz2, hc2, hf2⟩ := bcellB hb2 (w.heap.size + 2) (by go_size)))
            go_roundw
            case rel => exact ⟨k + 1, by omega, by go_num, Lib.hid (HN.out.symm.trans HK.out), (k0.below hb2).alloc _, (k1.below hb2).alloc _, by go_size, by (repeat' (first | (with_reducible exact Below.refl _ _) | (with_reducible assumption) | (with_reducible refine Below.alloc ?_ ?_ _) | (with_reducible refine below_drewN ?_ _) | (with_reducible refine Below.drew ?_) | (with_reducible refine Below.setCell ?_ ?_ _) | (with_reducible refine below_two ?_ (by with_reducible assumption)) | go_size))⟩
            case measure => simp [intOf]; omega
        · have hk4 : k = 4 := by omega
          subst hk4
          go_wp2_with (first | (refine wpList_store_blk rfl 23 _ _ rfl _ rfl rfl (k0) rfl (by kernel_rfl) (by simp [Value.oneCell']) ?_; intro w8 ho8 kb8; have kc8 := kb8.cell))
          exact bodyPost_ret (v := .tuple #[.agg #[.int .i64 0, .int .i64 0, .int .i64 0, .int .i64 0, .int .i64 0, .int .i64 0, .int .i64 0], .int .i64 150]) (by simp [results, Try.results9, go_sem, kc8]) rfl ⟨by rw [← HK.out]; rfl, below_only hw ho8 (Nat.le_refl _)⟩

set_option maxHeartbeats 4000000 in
theorem refOf_ok10 (s a st off : Int) (h1 : 1 ≤ s) (h2 : s ≤ 2048) (h3 : 1 ≤ a) (h4 : a ≤ 64) (h8 : 8 < a) (hal : alB a = true) (HOF : Hid (upI 8 a = off)) (ho8 : 8 ≤ off ∧ off ≤ 8 + a - 1) (HS : Hid (upI (s + off + 8) a = st)) (hst0 : 1 ≤ st ∧ st ≤ 100000) (R : Lay × Int) (HR : Hid (scan1 ⟨s, a, st, off, 0, 0, 0⟩ 4 0 = R)) (w : World) : Calls Try.prog 9 #[.int .i64 s, .int .i64 a, .bool true] w fun e w' =>
    e = .returned (.tuple #[layV R.1, .int .i64 R.2]) ∧ Below w.heap.size w w' := by
  have eO := HOF.out
  have eS := HS.out
  go_enter Try.func9, Try.ntmps9
  go_wp2_with (first | (go_at_call 19; refine (refUp_any _ _ ?_ ?_ ?_ ?_ _).mono ?_; omega; omega; omega; omega; rintro e w1 ⟨rfl, rfl⟩) | (go_at_call 18; refine (aligned_is a hal _).mono ?_; rintro e w1 ⟨rfl, rfl⟩))
  clear eO eS HOF HS ho8
  go_loopw [10] (fun j wr => RefRel w.heap.size w s a st off R (fun k => scan1 ⟨s, a, st, off, 0, 0, 0⟩ (4 - k) k) j wr) (fun j _ => 4 - (intOf j).toNat)
  case atStart => exact ⟨0, by omega, rfl, HR, (Blk.new w _ _).alloc _, Blk.new2 w _ 23 _, by go_size, by (repeat' (first | (with_reducible exact Below.refl _ _) | (with_reducible assumption) | (with_reducible refine Below.alloc ?_ ?_ _) | (with_reducible refine below_drewN ?_ _) | (with_reducible refine Below.drew ?_) | (with_reducible refine Below.setCell ?_ ?_ _) | (with_reducible refine below_two ?_ (by with_reducible assumption)) | go_size))⟩
  case round =>
    obtain ⟨k, hk, rfl, HK, k0, k1, hz, hw⟩ := hrel
    have c1 := k1.cell
    unfold layC at c1
    by_cases hlt : k < 4
    · obtain ⟨ob, hob⟩ : ∃ ob, (slabF ⟨s, a, st, off, 0, 0, 0⟩ k).obj = ob := ⟨_, rfl⟩
      obtain ⟨wa, hwa⟩ : ∃ wa, (slabF ⟨s, a, st, off, 0, 0, 0⟩ k).was = wa := ⟨_, rfl⟩
      have HO := Lib.hid hob
      have HW := Lib.hid hwa
      clear hob hwa
      have hbd := was_bd (l := ⟨s, a, st, off, 0, 0, 0⟩) hst0.1 k
      have hsum := was_of ⟨s, a, st, off, 0, 0, 0⟩ k
      have hob0 := obj_nn (l := ⟨s, a, st, off, 0, 0, 0⟩) hst0.1 k
      rw [HW.out] at hbd hsum
      rw [HO.out] at hob0 hsum
      replace hsum : wa + ob * st = bytesO k := hsum
      have hpow := bytes_le hlt
      have hly := Lib.hid (lay_of (s := s) (a := a) (st := st) (off := off) HO.out HW.out)
      by_cases hg : 0 < ob ∧ wa * 8 ≤ wa + ob * st
      · have HN := Lib.hid (scan1_good hlt HO.out HW.out hg)
        obtain ⟨hg1, hg2⟩ := hg
        have hq1 : 0 ≤ ob * st := by omega
        have hq2 : ob * st ≤ 2048 := by omega
        clear hsum
        by_cases hd : True
        · clear hd
          go_wp2_with (first | ((go_at_call 20; refine (refSlab_at s a st off k ob wa (by omega) hst0.1 hst0.2 HO.out HW.out _).mono ?_; rintro e w2 ⟨rfl, hb2⟩; obtain ⟨hz2, hc2, hf2⟩ := bcellB hb2 (w.heap.size + 2) (by go_size))) | ((refine wpList_store_blk rfl 23 _ _ rfl _ rfl rfl (((k0.below hb2).alloc _)) rfl (by kernel_rfl) (by simp [Value.oneCell']) ?_; intro w8 ho8 kb8; have kc8 := kb8.cell)))
          exact bodyPost_ret (v := .tuple #[.agg #[.int .i64 s, .int .i64 a, .int .i64 st, .int .i64 off, .int .i64 k, .int .i64 ob, .int .i64 wa], .int .i64 0]) (by simp [results, Try.results9, go_sem, kc8]) rfl ⟨by rw [← HK.out, HN.out, hly.out], below_only (by (repeat' (first | (with_reducible exact Below.refl _ _) | (with_reducible assumption) | (with_reducible refine Below.alloc ?_ ?_ _) | (with_reducible refine below_drewN ?_ _) | (with_reducible refine Below.drew ?_) | (with_reducible refine Below.setCell ?_ ?_ _) | (with_reducible refine below_two ?_ (by with_reducible assumption)) | go_size))) ho8 (Nat.le_refl _)⟩
        · exact absurd True.intro hd
      · have HN := Lib.hid (scan1_bad hlt HO.out HW.out hg)
        have hq1 : 0 ≤ ob * st := by omega
        have hq2 : ob * st ≤ 2048 := by omega
        clear hsum
        by_cases hg1 : 0 < ob
        · have hg2 : ¬ wa * 8 ≤ wa + ob * st := fun h => hg ⟨hg1, h⟩
          clear hg
          go_wp2_with (first | (go_at_call 20; refine (refSlab_at s a st off k ob wa (by omega) hst0.1 hst0.2 HO.out HW.out _).mono ?_; rintro e w2 ⟨rfl, hb2⟩; obtain ⟨hz2, hc2, hf2⟩ := bcellB hb2 (w.heap.size + 2) (by go_size)))
          go_roundw
          case rel => exact ⟨k + 1, by omega, by go_num, Lib.hid (HN.out.symm.trans HK.out), (k0.below hb2).alloc _, (k1.below hb2).alloc _, by go_size, by (repeat' (first | (with_reducible exact Below.refl _ _) | (with_reducible assumption) | (with_reducible refine Below.alloc ?_ ?_ _) | (with_reducible refine below_drewN ?_ _) | (with_reducible refine Below.drew ?_) | (with_reducible refine Below.setCell ?_ ?_ _) | (with_reducible refine below_two ?_ (by with_reducible assumption)) | go_size))⟩
          case measure => simp [intOf]; omega
        · clear hg
          go_wp2_with (first | (go_at_call 20; refine (refSlab_at s a st off k ob wa (by omega) hst0.1 hst0.2 HO.out HW.out _).mono ?_; rintro e w2 ⟨rfl, hb2⟩; obtain ⟨hz2, hc2, hf2⟩ := bcellB hb2 (w.heap.size + 2) (by go_size)))
          go_roundw
          case rel => exact ⟨k + 1, by omega, by go_num, Lib.hid (HN.out.symm.trans HK.out), (k0.below hb2).alloc _, (k1.below hb2).alloc _, by go_size, by (repeat' (first | (with_reducible exact Below.refl _ _) | (with_reducible assumption) | (with_reducible refine Below.alloc ?_ ?_ _) | (with_reducible refine below_drewN ?_ _) | (with_reducible refine Below.drew ?_) | (with_reducible refine Below.setCell ?_ ?_ _) | (with_reducible refine below_two ?_ (by with_reducible assumption)) | go_size))⟩
          case measure => simp [intOf]; omega
    · have hk4 : k = 4 := by omega
      subst hk4
      have HK2 : Hid (scan2 ⟨s, a, st, off, 0, 0, 0⟩ 4 0 = R) := Lib.hid HK.out
      go_wp2
      obtain ⟨wo, rfl⟩ : ∃ wo : World, wo = wr := ⟨_, rfl⟩
      clear c1
      go_loopw [12] (fun j wr => RefRel w.heap.size w s a st off R (fun k => scan2 ⟨s, a, st, off, 0, 0, 0⟩ (4 - k) k) j wr) (fun j _ => 4 - (intOf j).toNat)
      case atStart => exact ⟨0, by omega, rfl, HK2, k0, k1, hz, hw⟩
      case round =>
        clear HK HK2 k0 k1 hz hw hlt hk
        obtain ⟨k, hk, rfl, HK, k0, k1, hz, hw⟩ := hrel
        have c1 := k1.cell
        unfold layC at c1
        by_cases hlt : k < 4
        · obtain ⟨ob, hob⟩ : ∃ ob, (slabF ⟨s, a, st, off, 0, 0, 0⟩ k).obj = ob := ⟨_, rfl⟩
          obtain ⟨wa, hwa⟩ : ∃ wa, (slabF ⟨s, a, st, off, 0, 0, 0⟩ k).was = wa := ⟨_, rfl⟩
          have HO := Lib.hid hob
          have HW := Lib.hid hwa
          clear hob hwa
          have hbd := was_bd (l := ⟨s, a, st, off, 0, 0, 0⟩) hst0.1 k
          have hsum := was_of ⟨s, a, st, off, 0, 0, 0⟩ k
          have hob0 := obj_nn (l := ⟨s, a, st, off, 0, 0, 0⟩) hst0.1 k
          rw [HW.out] at hbd hsum
          rw [HO.out] at hob0 hsum
          replace hsum : wa + ob * st = bytesO k := hsum
          have hpow := bytes_le hlt
          have hly := Lib.hid (lay_of (s := s) (a := a) (st := st) (off := off) HO.out HW.out)
          clear hsum
          by_cases hg : 0 < ob
          · have HN := Lib.hid (scan2_good hlt HO.out hg)
            go_wp2_with (first | ((go_at_call 20; refine (refSlab_at s a st off k ob wa (by omega) hst0.1 hst0.2 HO.out HW.out _).mono ?_; rintro e w2 ⟨rfl, hb2⟩; obtain ⟨hz2, hc2, hf2⟩ := bcellB hb2 (w.heap.size + 2) (by go_size))) | ((refine wpList_store_blk rfl 23 _ _ rfl _ rfl rfl (((k0.below hb2).alloc _)) rfl (by kernel_rfl) (by simp [Value.oneCell']) ?_; intro w8 ho8 kb8; have kc8 := kb8.cell)))
            exact bodyPost_ret (v := .tuple #[.agg #[.int .i64 s, .int .i64 a, .int .i64 st, .int .i64 off, .int .i64 k, .int .i64 ob, .int .i64 wa], .int .i64 0]) (by simp [results, Try.results9, go_sem, kc8]) rfl ⟨by rw [← HK.out, HN.out, hly.out], below_only (by (repeat' (first | (with_reducible exact Below.refl _ _) | (with_reducible assumption) | (with_reducible refine Below.alloc ?_ ?_ _) | (with_reducible refine below_drewN ?_ _) | (with_reducible refine Below.drew ?_) | (with_reducible refine Below.setCell ?_ ?_ _) | (with_reducible refine below_two ?_ (by with_reducible assumption)) | go_size))) ho8 (Nat.le_refl _)⟩
          · have HN := Lib.hid (scan2_bad hlt HO.out hg)
            go_wp2_with (first | (go_at_call 20; refine (refSlab_at s a st off k ob wa (by omega) hst0.1 hst0.2 HO.out HW.out _).mono ?_; rintro e w2 ⟨rfl, hb2⟩; obtain ⟨hz2, hc2, hf2⟩ := bcellB hb2 (w.heap.size + 2) (by go_size)))
            go_roundw
            case rel => exact ⟨k + 1, by omega, by go_num, Lib.hid (HN.out.symm.trans HK.out), (k0.below hb2).alloc _, (k1.below hb2).alloc _, by go_size, by (repeat' (first | (with_reducible exact Below.refl _ _) | (with_reducible assumption) | (with_reducible refine Below.alloc ?_ ?_ _) | (with_reducible refine below_drewN ?_ _) | (with_reducible refine Below.drew ?_) | (with_reducible refine Below.setCell ?_ ?_ _) | (with_reducible refine below_two ?_ (by with_reducible assumption)) | go_size))⟩
            case measure => simp [intOf]; omega
        · have hk4 : k = 4 := by omega
          subst hk4
          go_wp2_with (first | (refine wpList_store_blk rfl 23 _ _ rfl _ rfl rfl (k0) rfl (by kernel_rfl) (by simp [Value.oneCell']) ?_; intro w8 ho8 kb8; have kc8 := kb8.cell))
          exact bodyPost_ret (v := .tuple #[.agg #[.int .i64 0, .int .i64 0, .int .i64 0, .int .i64 0, .int .i64 0, .int .i64 0, .int .i64 0], .int .i64 150]) (by simp [results, Try.results9, go_sem, kc8]) rfl ⟨by rw [← HK.out]; rfl, below_only hw ho8 (Nat.le_refl _)⟩

set_option maxHeartbeats 4000000 in
theorem refOf_ok11 (s a st off : Int) (h1 : 1 ≤ s) (h2 : s ≤ 2048) (h3 : 1 ≤ a) (h4 : a ≤ 64) (h8 : a ≤ 8) (hal : alB a = true) (HOF : Hid (upI 8 a = off)) (ho8 : 8 ≤ off ∧ off ≤ 8 + a - 1) (HS : Hid (upI (s + off + 8) 8 = st)) (hst0 : 1 ≤ st ∧ st ≤ 100000) (R : Lay × Int) (HR : Hid (scan1 ⟨s, a, st, off, 0, 0, 0⟩ 4 0 = R)) (w : World) : Calls Try.prog 9 #[.int .i64 s, .int .i64 a, .bool true] w fun e w' =>
    e = .returned (.tuple #[layV R.1, .int .i64 R.2]) ∧ Below w.heap.size w w' := by
  have eO := HOF.out
  have eS := HS.out
  go_enter Try.func9, Try.ntmps9
  go_wp2_with (first | (go_at_call 19; refine (refUp_any _ _ ?_ ?_ ?_ ?_ _).mono ?_; omega; omega; omega; omega; rintro e w1 ⟨rfl, rfl⟩) | (go_at_call 18; refine (aligned_is a hal _).mono ?_; rintro e w1 ⟨rfl, rfl⟩))
  clear eO eS HOF HS ho8
  go_loopw [10] (fun j wr => RefRel w.heap.size w s a st off R (fun k => scan1 ⟨s, a, st, off, 0, 0, 0⟩ (4 - k) k) j wr) (fun j _ => 4 - (intOf j).toNat)
  case atStart => exact ⟨0, by omega, rfl, HR, (Blk.new w _ _).alloc _, Blk.new2 w _ 23 _, by go_size, by (repeat' (first | (with_reducible exact Below.refl _ _) | (with_reducible assumption) | (with_reducible refine Below.alloc ?_ ?_ _) | (with_reducible refine below_drewN ?_ _) | (with_reducible refine Below.drew ?_) | (with_reducible refine Below.setCell ?_ ?_ _) | (with_reducible refine below_two ?_ (by with_reducible assumption)) | go_size))⟩
  case round =>
    obtain ⟨k, hk, rfl, HK, k0, k1, hz, hw⟩ := hrel
    have c1 := k1.cell
    unfold layC at c1
    by_cases hlt : k < 4
    · obtain ⟨ob, hob⟩ : ∃ ob, (slabF ⟨s, a, st, off, 0, 0, 0⟩ k).obj = ob := ⟨_, rfl⟩
      obtain ⟨wa, hwa⟩ : ∃ wa, (slabF ⟨s, a, st, off, 0, 0, 0⟩ k).was = wa := ⟨_, rfl⟩
      have HO := Lib.hid hob
      have HW := Lib.hid hwa
      clear hob hwa
      have hbd := was_bd (l := ⟨s, a, st, off, 0, 0, 0⟩) hst0.1 k
      have hsum := was_of ⟨s, a, st, off, 0, 0, 0⟩ k
      have hob0 := obj_nn (l := ⟨s, a, st, off, 0, 0, 0⟩) hst0.1 k
      rw [HW.out] at hbd hsum
      rw [HO.out] at hob0 hsum
      replace hsum : wa + ob * st = bytesO k := hsum
      have hpow := bytes_le hlt
      have hly := Lib.hid (lay_of (s := s) (a := a) (st := st) (off := off) HO.out HW.out)
      by_cases hg : 0 < ob ∧ wa * 8 ≤ wa + ob * st
      · have HN := Lib.hid (scan1_good hlt HO.out HW.out hg)
        obtain ⟨hg1, hg2⟩ := hg
        have hq1 : 0 ≤ ob * st := by omega
        have hq2 : ob * st ≤ 2048 := by omega
        clear hsum
        by_cases hd : True
        · clear hd
          go_wp2_with (first | ((go_at_call 20; refine (refSlab_at s a st off k ob wa (by omega) hst0.1 hst0.2 HO.out HW.out _).mono ?_; rintro e w2 ⟨rfl, hb2⟩; obtain ⟨hz2, hc2, hf2⟩ := bcellB hb2 (w.heap.size + 2) (by go_size))) | ((refine wpList_store_blk rfl 23 _ _ rfl _ rfl rfl (((k0.below hb2).alloc _)) rfl (by kernel_rfl) (by simp [Value.oneCell']) ?_; intro w8 ho8 kb8; have kc8 := kb8.cell)))
          exact bodyPost_ret (v := .tuple #[.agg #[.int .i64 s, .int .i64 a, .int .i64 st, .int .i64 off, .int .i64 k, .int .i64 ob, .int .i64 wa], .int .i64 0]) (by simp [results, Try.results9, go_sem, kc8]) rfl ⟨by rw [← HK.out, HN.out, hly.out], below_only (by (repeat' (first | (with_reducible exact Below.refl _ _) | (with_reducible assumption) | (with_reducible refine Below.alloc ?_ ?_ _) | (with_reducible refine below_drewN ?_ _) | (with_reducible refine Below.drew ?_) | (with_reducible refine Below.setCell ?_ ?_ _) | (with_reducible refine below_two ?_ (by with_reducible assumption)) | go_size))) ho8 (Nat.le_refl _)⟩
        · exact absurd True.intro hd
      · have HN := Lib.hid (scan1_bad hlt HO.out HW.out hg)
        have hq1 : 0 ≤ ob * st := by omega
        have hq2 : ob * st ≤ 2048 := by omega
        clear hsum
        by_cases hg1 : 0 < ob
        · have hg2 : ¬ wa * 8 ≤ wa + ob * st := fun h => hg ⟨hg1, h⟩
          clear hg
          go_wp2_with (first | (go_at_call 20; refine (refSlab_at s a st off k ob wa (by omega) hst0.1 hst0.2 HO.out HW.out _).mono ?_; rintro e w2 ⟨rfl, hb2⟩; obtain ⟨hz2, hc2, hf2⟩ := bcellB hb2 (w.heap.size + 2) (by go_size)))
          go_roundw
          case rel => exact ⟨k + 1, by omega, by go_num, Lib.hid (HN.out.symm.trans HK.out), (k0.below hb2).alloc _, (k1.below hb2).alloc _, by go_size, by (repeat' (first | (with_reducible exact Below.refl _ _) | (with_reducible assumption) | (with_reducible refine Below.alloc ?_ ?_ _) | (with_reducible refine below_drewN ?_ _) | (with_reducible refine Below.drew ?_) | (with_reducible refine Below.setCell ?_ ?_ _) | (with_reducible refine below_two ?_ (by with_reducible assumption)) | go_size))⟩
          case measure => simp [intOf]; omega
        · clear hg
          go_wp2_with (first | (go_at_call 20; refine (refSlab_at s a st off k ob wa (by omega) hst0.1 hst0.2 HO.out HW.out _).mono ?_; rintro e w2 ⟨rfl, hb2⟩; obtain ⟨hz2, hc2, hf2⟩ := bcellB hb2 (w.heap.size + 2) (by go_size)))
          go_roundw
          case rel => exact ⟨k + 1, by omega, by go_num, Lib.hid (HN.out.symm.trans HK.out), (k0.below hb2).alloc _, (k1.below hb2).alloc _, by go_size, by (repeat' (first | (with_reducible exact Below.refl _ _) | (with_reducible assumption) | (with_reducible refine Below.alloc ?_ ?_ _) | (with_reducible refine below_drewN ?_ _) | (with_reducible refine Below.drew ?_) | (with_reducible refine Below.setCell ?_ ?_ _) | (with_reducible refine below_two ?_ (by with_reducible assumption)) | go_size))⟩
          case measure => simp [intOf]; omega
    · have hk4 : k = 4 := by omega
      subst hk4
      have HK2 : Hid (scan2 ⟨s, a, st, off, 0, 0, 0⟩ 4 0 = R) := Lib.hid HK.out
      go_wp2
      obtain ⟨wo, rfl⟩ : ∃ wo : World, wo = wr := ⟨_, rfl⟩
      clear c1
      go_loopw [12] (fun j wr => RefRel w.heap.size w s a st off R (fun k => scan2 ⟨s, a, st, off, 0, 0, 0⟩ (4 - k) k) j wr) (fun j _ => 4 - (intOf j).toNat)
      case atStart => exact ⟨0, by omega, rfl, HK2, k0, k1, hz, hw⟩
      case round =>
        clear HK HK2 k0 k1 hz hw hlt hk
        obtain ⟨k, hk, rfl, HK, k0, k1, hz, hw⟩ := hrel
        have c1 := k1.cell
        unfold layC at c1
        by_cases hlt : k < 4
        · obtain ⟨ob, hob⟩ : ∃ ob, (slabF ⟨s, a, st, off, 0, 0, 0⟩ k).obj = ob := ⟨_, rfl⟩
          obtain ⟨wa, hwa⟩ : ∃ wa, (slabF ⟨s, a, st, off, 0, 0, 0⟩ k).was = wa := ⟨_, rfl⟩
          have HO := Lib.hid hob
          have HW := Lib.hid hwa
          clear hob hwa
          have hbd := was_bd (l := ⟨s, a, st, off, 0, 0, 0⟩) hst0.1 k
          have hsum := was_of ⟨s, a, st, off, 0, 0, 0⟩ k
          have hob0 := obj_nn (l := ⟨s, a, st, off, 0, 0, 0⟩) hst0.1 k
          rw [HW.out] at hbd hsum
          rw [HO.out] at hob0 hsum
          replace hsum : wa + ob * st = bytesO k := hsum
          have hpow := bytes_le hlt
          have hly := Lib.hid (lay_of (s := s) (a := a) (st := st) (off := off) HO.out HW.out)
          clear hsum
          by_cases hg : 0 < ob
          · have HN := Lib.hid (scan2_good hlt HO.out hg)
            go_wp2_with (first | ((go_at_call 20; refine (refSlab_at s a st off k ob wa (by omega) hst0.1 hst0.2 HO.out HW.out _).mono ?_; rintro e w2 ⟨rfl, hb2⟩; obtain ⟨hz2, hc2, hf2⟩ := bcellB hb2 (w.heap.size + 2) (by go_size))) | ((refine wpList_store_blk rfl 23 _ _ rfl _ rfl rfl (((k0.below hb2).alloc _)) rfl (by kernel_rfl) (by simp [Value.oneCell']) ?_; intro w8 ho8 kb8; have kc8 := kb8.cell)))
            exact bodyPost_ret (v := .tuple #[.agg #[.int .i64 s, .int .i64 a, .int .i64 st, .int .i64 off, .int .i64 k, .int .i64 ob, .int .i64 wa], .int .i64 0]) (by simp [results, Try.results9, go_sem, kc8]) rfl ⟨by rw [← HK.out, HN.out, hly.out], below_only (by (repeat' (first | (with_reducible exact Below.refl _ _) | (with_reducible assumption) | (with_reducible refine Below.alloc ?_ ?_ _) | (with_reducible refine below_drewN ?_ _) | (with_reducible refine Below.drew ?_) | (with_reducible refine Below.setCell ?_ ?_ _) | (with_reducible refine below_two ?_ (by with_reducible assumption)) | go_size))) ho8 (Nat.le_refl _)⟩
          · have HN := Lib.hid (scan2_bad hlt HO.out hg)
            go_wp2_with (first | (go_at_call 20; refine (refSlab_at s a st off k ob wa (by omega) hst0.1 hst0.2 HO.out HW.out _).mono ?_; rintro e w2 ⟨rfl, hb2⟩; obtain ⟨hz2, hc2, hf2⟩ := bcellB hb2 (w.heap.size + 2) (by go_size)))
            go_roundw
            case rel => exact ⟨k + 1, by omega, by go_num, Lib.hid (HN.out.symm.trans HK.out), (k0.below hb2).alloc _, (k1.below hb2).alloc _, by go_size, by (repeat' (first | (with_reducible exact Below.refl _ _) | (with_reducible assumption) | (with_reducible refine Below.alloc ?_ ?_ _) | (with_reducible refine below_drewN ?_ _) | (with_reducible refine Below.drew ?_) | (with_reducible refine Below.setCell ?_ ?_ _) | (with_reducible refine below_two ?_ (by with_reducible assumption)) | go_size))⟩
            case measure => simp [intOf]; omega
        · have hk4 : k = 4 := by omega
          subst hk4
          go_wp2_with (first | (refine wpList_store_blk rfl 23 _ _ rfl _ rfl rfl (k0) rfl (by kernel_rfl) (by simp [Value.oneCell']) ?_; intro w8 ho8 kb8; have kc8 := kb8.cell))
          exact bodyPost_ret (v := .tuple #[.agg #[.int .i64 0, .int .i64 0, .int .i64 0, .int .i64 0, .int .i64 0, .int .i64 0, .int .i64 0], .int .i64 150]) (by simp [results, Try.results9, go_sem, kc8]) rfl ⟨by rw [← HK.out]; rfl, below_only hw ho8 (Nat.le_refl _)⟩

theorem refOf_ok (s a st off : Int) (g : Bool) (h1 : 1 ≤ s) (h2 : s ≤ 2048) (h3 : 1 ≤ a) (h4 : a ≤ 64) (hal : alB a = true) (ho : offOf a g = off) (hs : upI (netOf s a g) (max 8 a) = st) (R : Lay × Int) (HR : Hid (scan1 ⟨s, a, st, off, 0, 0, 0⟩ 4 0 = R)) (w : World) : Calls Try.prog 9 #[.int .i64 s, .int .i64 a, .bool g] w fun e w' =>
    e = .returned (.tuple #[layV R.1, .int .i64 R.2]) ∧ Below w.heap.size w w' := by
  have ho8 := up_bd (n := 8) h3
  have hst0 : 1 ≤ st ∧ st ≤ 100000 := by
    have h5 := up_bd (n := netOf s a g) (m := max 8 a) (by omega)
    rw [hs] at h5
    unfold netOf at h5
    split at h5 <;> omega
  cases g
  · have e1 : off = 0 := ho.symm
    subst e1
    rcases Int.lt_or_le 8 a with h8 | h8
    · rw [show max 8 a = a by omega] at hs
      exact refOf_ok00 s a st h1 h2 h3 h4 h8 hal (Lib.hid hs) hst0 R HR w
    · rw [show max 8 a = 8 by omega] at hs
      exact refOf_ok01 s a st h1 h2 h3 h4 h8 hal (Lib.hid hs) hst0 R HR w
  · replace ho : upI 8 a = off := ho
    rw [ho] at ho8
    rw [netOf, if_pos rfl, ho] at hs
    rw [show s + (off + 8) = s + off + 8 by omega] at hs
    rcases Int.lt_or_le 8 a with h8 | h8
    · rw [show max 8 a = a by omega] at hs
      exact refOf_ok10 s a st off h1 h2 h3 h4 h8 hal (Lib.hid ho) ⟨ho8.1, ho8.2.1⟩ (Lib.hid hs) hst0 R HR w
    · rw [show max 8 a = 8 by omega] at hs
      exact refOf_ok11 s a st off h1 h2 h3 h4 h8 hal (Lib.hid ho) ⟨ho8.1, ho8.2.1⟩ (Lib.hid hs) hst0 R HR w

end Go.Proofs.Ytibpaomkaknbhaa
