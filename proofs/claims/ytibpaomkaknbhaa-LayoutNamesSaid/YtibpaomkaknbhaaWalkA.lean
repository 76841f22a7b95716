/-
  The walks of up and slab (of both texts), and of aligned.
-/
import Derived.Test.YtibpaomkaknbhaaRows
import Derived.Test.YtibpaomkaknbhaaPlain
import Derived.Test.YtibpaomkaknbhaaBring
import Derived.Test.YtibpaomkaknbhaaExt
import Derived.WalkKit
import Derived.Deep.DeepMust
import Derived.WalkSpells
import Derived.WalkLawsBesides
import Derived.Handy
import Derived.Lib.Hide
import Derived.Deep.QuietTactic
import Derived.BigQuiet
namespace Go.Proofs.Ytibpaomkaknbhaa
open Go.RowKit

theorem up_bd {n m : Int} (hm : 1 ≤ m) : n ≤ upI n m ∧ upI n m ≤ n + m - 1 ∧ upI n m % m = 0 := by
  unfold upI
  have h1 := Int.mul_ediv_add_emod (n + m - 1) m
  have h2 := Int.emod_nonneg (n + m - 1) (show m ≠ 0 by omega)
  have h3 := Int.emod_lt_of_pos (n + m - 1) (show 0 < m by omega)
  rw [Int.mul_comm] at h1
  exact ⟨by omega, by omega, Int.mul_emod_left _ _⟩
theorem up_is {n m i : Int} (hm : 1 ≤ m) (h1 : n ≤ i) (h2 : i ≤ upI n m) (h3 : i % m = 0) : i = upI n m := by
  obtain ⟨k1, k2, k3⟩ := up_bd (n := n) hm
  have h4 : (upI n m - i) % m = 0 := by rw [Int.sub_emod, h3, k3]; simp
  have h5 : upI n m - i < m := by omega
  rw [Int.emod_eq_of_lt (by omega) h5] at h4
  omega

theorem up_any (n m : Int) (hn : 0 ≤ n) (hn' : n ≤ 100000) (hm : 1 ≤ m) (hm' : m ≤ 100000) (w : World) : Calls Try.prog 16 #[.int .i64 n, .int .i64 m] w fun e w' =>
    e = .returned (.int .i64 (upI n m)) ∧ w' = w := by
  have hb := up_bd (n := n) hm
  unfold upI at *
  obtain ⟨hb1, hb2, -⟩ := hb
  go_enter Try.func16, Try.ntmps16
  go_wp2
  go_ret
  exact ⟨rfl, rfl⟩

theorem refUp_any (n m : Int) (hn : 0 ≤ n) (hn' : n ≤ 100000) (hm : 1 ≤ m) (hm' : m ≤ 100000) (w : World) : Calls Try.prog 19 #[.int .i64 n, .int .i64 m] w fun e w' =>
    e = .returned (.int .i64 (upI n m)) ∧ w' = w := by
  have hb := up_bd (n := n) hm
  obtain ⟨hb1, hb2, hb3⟩ := hb
  have HB := Lib.hid hb3
  clear hb3
  go_enter Try.func19, Try.ntmps19
  go_wp2
  go_loop [0] (fun j => ∃ i : Int, n ≤ i ∧ i ≤ upI n m ∧ j = .int .i64 i) (fun j => (upI n m - intOf j).toNat)
  case atStart => exact ⟨n, Int.le_refl _, hb1, rfl⟩
  case round =>
    obtain ⟨i, hi1, hi2, rfl⟩ := hrel
    by_cases hz : i % m = 0
    · have HE := Lib.hid (up_is hm hi1 hi2 hz)
      have hz' : (i % m != 0) = false := by rw [hz]; rfl
      clear hz
      go_wp2
      go_ret
      exact ⟨ret_int HE.out, rfl⟩
    · have hlt : i < upI n m := by
        rcases Int.lt_or_eq_of_le hi2 with h | h
        · exact h
        · exact absurd (by rw [h]; exact HB.out) hz
      have hz' : (i % m != 0) = true := by rw [bne_iff_ne]; exact hz
      clear hz
      go_wp2
      go_round
      case rel => exact ⟨i + 1, by omega, by omega, rfl⟩
      case measure => simp [intOf]; omega

def layV (x : Lay) : Value := .agg #[.int .i64 x.sz, .int .i64 x.al, .int .i64 x.st, .int .i64 x.off, .int .i64 x.ord, .int .i64 x.obj, .int .i64 x.was]

set_option maxHeartbeats 4000000 in
theorem slab_any (l : Lay) (k : Nat) (hk : k ≤ 3) (h1 : 1 ≤ l.st) (h2 : l.st ≤ 100000) (w : World) :
    Calls Try.prog 17 #[.agg #[.int .i64 l.sz, .int .i64 l.al, .int .i64 l.st, .int .i64 l.off, .int .i64 l.ord, .int .i64 l.obj, .int .i64 l.was], .int .i64 k] w fun e w' =>
      e = .returned (layV (slabF l k)) ∧ Below w.heap.size w w' := by
  obtain rfl | rfl | rfl | rfl : k = 0 ∨ k = 1 ∨ k = 2 ∨ k = 3 := by omega
  · have e0 : bytesO 0 = 256 := by decide
    have q1 : 256 / l.st * l.st ≤ 256 := Int.ediv_mul_le _ (by omega)
    have q0 : 0 ≤ 256 / l.st := Int.ediv_nonneg (by omega) (by omega)
    have q2 : 0 ≤ 256 / l.st * l.st := Int.mul_nonneg q0 (by omega)
    by_cases hm : 16 < 256 / l.st
    · have hs : layV (slabF l 0) = .agg #[.int .i64 l.sz, .int .i64 l.al, .int .i64 l.st, .int .i64 l.off, .int .i64 0, .int .i64 16, .int .i64 (256 - 16 * l.st)] := by
        have e1 : min (256 / l.st) 16 = 16 := by omega
        simp [layV, slabF, e0, e1]
      rw [hs]
      clear hs e0
      go_enter Try.func17, Try.ntmps17
      go_wp2
      exact bodyPost_ret (v := .agg #[.int .i64 l.sz, .int .i64 l.al, .int .i64 l.st, .int .i64 l.off, .int .i64 0, .int .i64 16, .int .i64 (256 - 16 * l.st)]) (by simp [results, Try.results17, go_sem]) rfl ⟨rfl, by (repeat' (first | (with_reducible exact Below.refl _ _) | (with_reducible assumption) | (with_reducible refine Below.alloc ?_ ?_ _) | (with_reducible refine below_drewN ?_ _) | (with_reducible refine Below.drew ?_) | (with_reducible refine Below.setCell ?_ ?_ _) | (with_reducible refine below_two ?_ (by with_reducible assumption)) | go_size))⟩
    · have hs : layV (slabF l 0) = .agg #[.int .i64 l.sz, .int .i64 l.al, .int .i64 l.st, .int .i64 l.off, .int .i64 0, .int .i64 (256 / l.st), .int .i64 (256 - 256 / l.st * l.st)] := by
        have e1 : min (256 / l.st) 16 = 256 / l.st := by omega
        simp [layV, slabF, e0, e1]
      rw [hs]
      clear hs e0
      go_enter Try.func17, Try.ntmps17
      go_wp2
      exact bodyPost_ret (v := .agg #[.int .i64 l.sz, .int .i64 l.al, .int .i64 l.st, .int .i64 l.off, .int .i64 0, .int .i64 (256 / l.st), .int .i64 (256 - 256 / l.st * l.st)]) (by simp [results, Try.results17, go_sem]) rfl ⟨rfl, by (repeat' (first | (with_reducible exact Below.refl _ _) | (with_reducible assumption) | (with_reducible refine Below.alloc ?_ ?_ _) | (with_reducible refine below_drewN ?_ _) | (with_reducible refine Below.drew ?_) | (with_reducible refine Below.setCell ?_ ?_ _) | (with_reducible refine below_two ?_ (by with_reducible assumption)) | go_size))⟩
  · have e0 : bytesO 1 = 512 := by decide
    have q1 : 512 / l.st * l.st ≤ 512 := Int.ediv_mul_le _ (by omega)
    have q0 : 0 ≤ 512 / l.st := Int.ediv_nonneg (by omega) (by omega)
    have q2 : 0 ≤ 512 / l.st * l.st := Int.mul_nonneg q0 (by omega)
    by_cases hm : 16 < 512 / l.st
    · have hs : layV (slabF l 1) = .agg #[.int .i64 l.sz, .int .i64 l.al, .int .i64 l.st, .int .i64 l.off, .int .i64 1, .int .i64 16, .int .i64 (512 - 16 * l.st)] := by
        have e1 : min (512 / l.st) 16 = 16 := by omega
        simp [layV, slabF, e0, e1]
      rw [hs]
      clear hs e0
      go_enter Try.func17, Try.ntmps17
      go_wp2
      exact bodyPost_ret (v := .agg #[.int .i64 l.sz, .int .i64 l.al, .int .i64 l.st, .int .i64 l.off, .int .i64 1, .int .i64 16, .int .i64 (512 - 16 * l.st)]) (by simp [results, Try.results17, go_sem]) rfl ⟨rfl, by (repeat' (first | (with_reducible exact Below.refl _ _) | (with_reducible assumption) | (with_reducible refine Below.alloc ?_ ?_ _) | (with_reducible refine below_drewN ?_ _) | (with_reducible refine Below.drew ?_) | (with_reducible refine Below.setCell ?_ ?_ _) | (with_reducible refine below_two ?_ (by with_reducible assumption)) | go_size))⟩
    · have hs : layV (slabF l 1) = .agg #[.int .i64 l.sz, .int .i64 l.al, .int .i64 l.st, .int .i64 l.off, .int .i64 1, .int .i64 (512 / l.st), .int .i64 (512 - 512 / l.st * l.st)] := by
        have e1 : min (512 / l.st) 16 = 512 / l.st := by omega
        simp [layV, slabF, e0, e1]
      rw [hs]
      clear hs e0
      go_enter Try.func17, Try.ntmps17
      go_wp2
      exact bodyPost_ret (v := .agg #[.int .i64 l.sz, .int .i64 l.al, .int .i64 l.st, .int .i64 l.off, .int .i64 1, .int .i64 (512 / l.st), .int .i64 (512 - 512 / l.st * l.st)]) (by simp [results, Try.results17, go_sem]) rfl ⟨rfl, by (repeat' (first | (with_reducible exact Below.refl _ _) | (with_reducible assumption) | (with_reducible refine Below.alloc ?_ ?_ _) | (with_reducible refine below_drewN ?_ _) | (with_reducible refine Below.drew ?_) | (with_reducible refine Below.setCell ?_ ?_ _) | (with_reducible refine below_two ?_ (by with_reducible assumption)) | go_size))⟩
  · have e0 : bytesO 2 = 1024 := by decide
    have q1 : 1024 / l.st * l.st ≤ 1024 := Int.ediv_mul_le _ (by omega)
    have q0 : 0 ≤ 1024 / l.st := Int.ediv_nonneg (by omega) (by omega)
    have q2 : 0 ≤ 1024 / l.st * l.st := Int.mul_nonneg q0 (by omega)
    by_cases hm : 16 < 1024 / l.st
    · have hs : layV (slabF l 2) = .agg #[.int .i64 l.sz, .int .i64 l.al, .int .i64 l.st, .int .i64 l.off, .int .i64 2, .int .i64 16, .int .i64 (1024 - 16 * l.st)] := by
        have e1 : min (1024 / l.st) 16 = 16 := by omega
        simp [layV, slabF, e0, e1]
      rw [hs]
      clear hs e0
      go_enter Try.func17, Try.ntmps17
      go_wp2
      exact bodyPost_ret (v := .agg #[.int .i64 l.sz, .int .i64 l.al, .int .i64 l.st, .int .i64 l.off, .int .i64 2, .int .i64 16, .int .i64 (1024 - 16 * l.st)]) (by simp [results, Try.results17, go_sem]) rfl ⟨rfl, by (repeat' (first | (with_reducible exact Below.refl _ _) | (with_reducible assumption) | (with_reducible refine Below.alloc ?_ ?_ _) | (with_reducible refine below_drewN ?_ _) | (with_reducible refine Below.drew ?_) | (with_reducible refine Below.setCell ?_ ?_ _) | (with_reducible refine below_two ?_ (by with_reducible assumption)) | go_size))⟩
    · have hs : layV (slabF l 2) = .agg #[.int .i64 l.sz, .int .i64 l.al, .int .i64 l.st, .int .i64 l.off, .int .i64 2, .int .i64 (1024 / l.st), .int .i64 (1024 - 1024 / l.st * l.st)] := by
        have e1 : min (1024 / l.st) 16 = 1024 / l.st := by omega
        simp [layV, slabF, e0, e1]
      rw [hs]
      clear hs e0
      go_enter Try.func17, Try.ntmps17
      go_wp2
      exact bodyPost_ret (v := .agg #[.int .i64 l.sz, .int .i64 l.al, .int .i64 l.st, .int .i64 l.off, .int .i64 2, .int .i64 (1024 / l.st), .int .i64 (1024 - 1024 / l.st * l.st)]) (by simp [results, Try.results17, go_sem]) rfl ⟨rfl, by (repeat' (first | (with_reducible exact Below.refl _ _) | (with_reducible assumption) | (with_reducible refine Below.alloc ?_ ?_ _) | (with_reducible refine below_drewN ?_ _) | (with_reducible refine Below.drew ?_) | (with_reducible refine Below.setCell ?_ ?_ _) | (with_reducible refine below_two ?_ (by with_reducible assumption)) | go_size))⟩
  · have e0 : bytesO 3 = 2048 := by decide
    have q1 : 2048 / l.st * l.st ≤ 2048 := Int.ediv_mul_le _ (by omega)
    have q0 : 0 ≤ 2048 / l.st := Int.ediv_nonneg (by omega) (by omega)
    have q2 : 0 ≤ 2048 / l.st * l.st := Int.mul_nonneg q0 (by omega)
    by_cases hm : 16 < 2048 / l.st
    · have hs : layV (slabF l 3) = .agg #[.int .i64 l.sz, .int .i64 l.al, .int .i64 l.st, .int .i64 l.off, .int .i64 3, .int .i64 16, .int .i64 (2048 - 16 * l.st)] := by
        have e1 : min (2048 / l.st) 16 = 16 := by omega
        simp [layV, slabF, e0, e1]
      rw [hs]
      clear hs e0
      go_enter Try.func17, Try.ntmps17
      go_wp2
      exact bodyPost_ret (v := .agg #[.int .i64 l.sz, .int .i64 l.al, .int .i64 l.st, .int .i64 l.off, .int .i64 3, .int .i64 16, .int .i64 (2048 - 16 * l.st)]) (by simp [results, Try.results17, go_sem]) rfl ⟨rfl, by (repeat' (first | (with_reducible exact Below.refl _ _) | (with_reducible assumption) | (with_reducible refine Below.alloc ?_ ?_ _) | (with_reducible refine below_drewN ?_ _) | (with_reducible refine Below.drew ?_) | (with_reducible refine Below.setCell ?_ ?_ _) | (with_reducible refine below_two ?_ (by with_reducible assumption)) | go_size))⟩
    · have hs : layV (slabF l 3) = .agg #[.int .i64 l.sz, .int .i64 l.al, .int .i64 l.st, .int .i64 l.off, .int .i64 3, .int .i64 (2048 / l.st), .int .i64 (2048 - 2048 / l.st * l.st)] := by
        have e1 : min (2048 / l.st) 16 = 2048 / l.st := by omega
        simp [layV, slabF, e0, e1]
      rw [hs]
      clear hs e0
      go_enter Try.func17, Try.ntmps17
      go_wp2
      exact bodyPost_ret (v := .agg #[.int .i64 l.sz, .int .i64 l.al, .int .i64 l.st, .int .i64 l.off, .int .i64 3, .int .i64 (2048 / l.st), .int .i64 (2048 - 2048 / l.st * l.st)]) (by simp [results, Try.results17, go_sem]) rfl ⟨rfl, by (repeat' (first | (with_reducible exact Below.refl _ _) | (with_reducible assumption) | (with_reducible refine Below.alloc ?_ ?_ _) | (with_reducible refine below_drewN ?_ _) | (with_reducible refine Below.drew ?_) | (with_reducible refine Below.setCell ?_ ?_ _) | (with_reducible refine below_two ?_ (by with_reducible assumption)) | go_size))⟩

set_option maxHeartbeats 4000000 in
theorem refSlab_any (l : Lay) (k : Nat) (hk : k ≤ 3) (h1 : 1 ≤ l.st) (h2 : l.st ≤ 100000) (w : World) :
    Calls Try.prog 20 #[.agg #[.int .i64 l.sz, .int .i64 l.al, .int .i64 l.st, .int .i64 l.off, .int .i64 l.ord, .int .i64 l.obj, .int .i64 l.was], .int .i64 k] w fun e w' =>
      e = .returned (layV (slabF l k)) ∧ Below w.heap.size w w' := by
  obtain rfl | rfl | rfl | rfl : k = 0 ∨ k = 1 ∨ k = 2 ∨ k = 3 := by omega
  · have e0 : bytesO 0 = 256 := by decide
    have q1 : 256 / l.st * l.st ≤ 256 := Int.ediv_mul_le _ (by omega)
    have q0 : 0 ≤ 256 / l.st := Int.ediv_nonneg (by omega) (by omega)
    have q2 : 0 ≤ 256 / l.st * l.st := Int.mul_nonneg q0 (by omega)
    by_cases hm : 16 < 256 / l.st
    · have hs : layV (slabF l 0) = .agg #[.int .i64 l.sz, .int .i64 l.al, .int .i64 l.st, .int .i64 l.off, .int .i64 0, .int .i64 16, .int .i64 (256 - 16 * l.st)] := by
        have e1 : min (256 / l.st) 16 = 16 := by omega
        simp [layV, slabF, e0, e1]
      rw [hs]
      clear hs e0
      go_enter Try.func20, Try.ntmps20
      go_wp2
      go_rounds 1
      exact bodyPost_ret (v := .agg #[.int .i64 l.sz, .int .i64 l.al, .int .i64 l.st, .int .i64 l.off, .int .i64 0, .int .i64 16, .int .i64 (256 - 16 * l.st)]) (by simp [results, Try.results20, go_sem]) rfl ⟨rfl, by (repeat' (first | (with_reducible exact Below.refl _ _) | (with_reducible assumption) | (with_reducible refine Below.alloc ?_ ?_ _) | (with_reducible refine below_drewN ?_ _) | (with_reducible refine Below.drew ?_) | (with_reducible refine Below.setCell ?_ ?_ _) | (with_reducible refine below_two ?_ (by with_reducible assumption)) | go_size))⟩
    · have hs : layV (slabF l 0) = .agg #[.int .i64 l.sz, .int .i64 l.al, .int .i64 l.st, .int .i64 l.off, .int .i64 0, .int .i64 (256 / l.st), .int .i64 (256 - 256 / l.st * l.st)] := by
        have e1 : min (256 / l.st) 16 = 256 / l.st := by omega
        simp [layV, slabF, e0, e1]
      rw [hs]
      clear hs e0
      go_enter Try.func20, Try.ntmps20
      go_wp2
      go_rounds 1
      exact bodyPost_ret (v := .agg #[.int .i64 l.sz, .int .i64 l.al, .int .i64 l.st, .int .i64 l.off, .int .i64 0, .int .i64 (256 / l.st), .int .i64 (256 - 256 / l.st * l.st)]) (by simp [results, Try.results20, go_sem]) rfl ⟨rfl, by (repeat' (first | (with_reducible exact Below.refl _ _) | (with_reducible assumption) | (with_reducible refine Below.alloc ?_ ?_ _) | (with_reducible refine below_drewN ?_ _) | (with_reducible refine Below.drew ?_) | (with_reducible refine Below.setCell ?_ ?_ _) | (with_reducible refine below_two ?_ (by with_reducible assumption)) | go_size))⟩
  · have e0 : bytesO 1 = 512 := by decide
    have q1 : 512 / l.st * l.st ≤ 512 := Int.ediv_mul_le _ (by omega)
    have q0 : 0 ≤ 512 / l.st := Int.ediv_nonneg (by omega) (by omega)
    have q2 : 0 ≤ 512 / l.st * l.st := Int.mul_nonneg q0 (by omega)
    by_cases hm : 16 < 512 / l.st
    · have hs : layV (slabF l 1) = .agg #[.int .i64 l.sz, .int .i64 l.al, .int .i64 l.st, .int .i64 l.off, .int .i64 1, .int .i64 16, .int .i64 (512 - 16 * l.st)] := by
        have e1 : min (512 / l.st) 16 = 16 := by omega
        simp [layV, slabF, e0, e1]
      rw [hs]
      clear hs e0
      go_enter Try.func20, Try.ntmps20
      go_wp2
      go_rounds 2
      exact bodyPost_ret (v := .agg #[.int .i64 l.sz, .int .i64 l.al, .int .i64 l.st, .int .i64 l.off, .int .i64 1, .int .i64 16, .int .i64 (512 - 16 * l.st)]) (by simp [results, Try.results20, go_sem]) rfl ⟨rfl, by (repeat' (first | (with_reducible exact Below.refl _ _) | (with_reducible assumption) | (with_reducible refine Below.alloc ?_ ?_ _) | (with_reducible refine below_drewN ?_ _) | (with_reducible refine Below.drew ?_) | (with_reducible refine Below.setCell ?_ ?_ _) | (with_reducible refine below_two ?_ (by with_reducible assumption)) | go_size))⟩
    · have hs : layV (slabF l 1) = .agg #[.int .i64 l.sz, .int .i64 l.al, .int .i64 l.st, .int .i64 l.off, .int .i64 1, .int .i64 (512 / l.st), .int .i64 (512 - 512 / l.st * l.st)] := by
        have e1 : min (512 / l.st) 16 = 512 / l.st := by omega
        simp [layV, slabF, e0, e1]
      rw [hs]
      clear hs e0
      go_enter Try.func20, Try.ntmps20
      go_wp2
      go_rounds 2
      exact bodyPost_ret (v := .agg #[.int .i64 l.sz, .int .i64 l.al, .int .i64 l.st, .int .i64 l.off, .int .i64 1, .int .i64 (512 / l.st), .int .i64 (512 - 512 / l.st * l.st)]) (by simp [results, Try.results20, go_sem]) rfl ⟨rfl, by (repeat' (first | (with_reducible exact Below.refl _ _) | (with_reducible assumption) | (with_reducible refine Below.alloc ?_ ?_ _) | (with_reducible refine below_drewN ?_ _) | (with_reducible refine Below.drew ?_) | (with_reducible refine Below.setCell ?_ ?_ _) | (with_reducible refine below_two ?_ (by with_reducible assumption)) | go_size))⟩
  · have e0 : bytesO 2 = 1024 := by decide
    have q1 : 1024 / l.st * l.st ≤ 1024 := Int.ediv_mul_le _ (by omega)
    have q0 : 0 ≤ 1024 / l.st := Int.ediv_nonneg (by omega) (by omega)
    have q2 : 0 ≤ 1024 / l.st * l.st := Int.mul_nonneg q0 (by omega)
    by_cases hm : 16 < 1024 / l.st
    · have hs : layV (slabF l 2) = .agg #[.int .i64 l.sz, .int .i64 l.al, .int .i64 l.st, .int .i64 l.off, .int .i64 2, .int .i64 16, .int .i64 (1024 - 16 * l.st)] := by
        have e1 : min (1024 / l.st) 16 = 16 := by omega
        simp [layV, slabF, e0, e1]
      rw [hs]
      clear hs e0
      go_enter Try.func20, Try.ntmps20
      go_wp2
      go_rounds 3
      exact bodyPost_ret (v := .agg #[.int .i64 l.sz, .int .i64 l.al, .int .i64 l.st, .int .i64 l.off, .int .i64 2, .int .i64 16, .int .i64 (1024 - 16 * l.st)]) (by simp [results, Try.results20, go_sem]) rfl ⟨rfl, by (repeat' (first | (with_reducible exact Below.refl _ _) | (with_reducible assumption) | (with_reducible refine Below.alloc ?_ ?_ _) | (with_reducible refine below_drewN ?_ _) | (with_reducible refine Below.drew ?_) | (with_reducible refine Below.setCell ?_ ?_ _) | (with_reducible refine below_two ?_ (by with_reducible assumption)) | go_size))⟩
    · have hs : layV (slabF l 2) = .agg #[.int .i64 l.sz, .int .i64 l.al, .int .i64 l.st, .int .i64 l.off, .int .i64 2, .int .i64 (1024 / l.st), .int .i64 (1024 - 1024 / l.st * l.st)] := by
        have e1 : min (1024 / l.st) 16 = 1024 / l.st := by omega
        simp [layV, slabF, e0, e1]
      rw [hs]
      clear hs e0
      go_enter Try.func20, Try.ntmps20
      go_wp2
      go_rounds 3
      exact bodyPost_ret (v := .agg #[.int .i64 l.sz, .int .i64 l.al, .int .i64 l.st, .int .i64 l.off, .int .i64 2, .int .i64 (1024 / l.st), .int .i64 (1024 - 1024 / l.st * l.st)]) (by simp [results, Try.results20, go_sem]) rfl ⟨rfl, by (repeat' (first | (with_reducible exact Below.refl _ _) | (with_reducible assumption) | (with_reducible refine Below.alloc ?_ ?_ _) | (with_reducible refine below_drewN ?_ _) | (with_reducible refine Below.drew ?_) | (with_reducible refine Below.setCell ?_ ?_ _) | (with_reducible refine below_two ?_ (by with_reducible assumption)) | go_size))⟩
  · have e0 : bytesO 3 = 2048 := by decide
    have q1 : 2048 / l.st * l.st ≤ 2048 := Int.ediv_mul_le _ (by omega)
    have q0 : 0 ≤ 2048 / l.st := Int.ediv_nonneg (by omega) (by omega)
    have q2 : 0 ≤ 2048 / l.st * l.st := Int.mul_nonneg q0 (by omega)
    by_cases hm : 16 < 2048 / l.st
    · have hs : layV (slabF l 3) = .agg #[.int .i64 l.sz, .int .i64 l.al, .int .i64 l.st, .int .i64 l.off, .int .i64 3, .int .i64 16, .int .i64 (2048 - 16 * l.st)] := by
        have e1 : min (2048 / l.st) 16 = 16 := by omega
        simp [layV, slabF, e0, e1]
      rw [hs]
      clear hs e0
      go_enter Try.func20, Try.ntmps20
      go_wp2
      go_rounds 4
      exact bodyPost_ret (v := .agg #[.int .i64 l.sz, .int .i64 l.al, .int .i64 l.st, .int .i64 l.off, .int .i64 3, .int .i64 16, .int .i64 (2048 - 16 * l.st)]) (by simp [results, Try.results20, go_sem]) rfl ⟨rfl, by (repeat' (first | (with_reducible exact Below.refl _ _) | (with_reducible assumption) | (with_reducible refine Below.alloc ?_ ?_ _) | (with_reducible refine below_drewN ?_ _) | (with_reducible refine Below.drew ?_) | (with_reducible refine Below.setCell ?_ ?_ _) | (with_reducible refine below_two ?_ (by with_reducible assumption)) | go_size))⟩
    · have hs : layV (slabF l 3) = .agg #[.int .i64 l.sz, .int .i64 l.al, .int .i64 l.st, .int .i64 l.off, .int .i64 3, .int .i64 (2048 / l.st), .int .i64 (2048 - 2048 / l.st * l.st)] := by
        have e1 : min (2048 / l.st) 16 = 2048 / l.st := by omega
        simp [layV, slabF, e0, e1]
      rw [hs]
      clear hs e0
      go_enter Try.func20, Try.ntmps20
      go_wp2
      go_rounds 4
      exact bodyPost_ret (v := .agg #[.int .i64 l.sz, .int .i64 l.al, .int .i64 l.st, .int .i64 l.off, .int .i64 3, .int .i64 (2048 / l.st), .int .i64 (2048 - 2048 / l.st * l.st)]) (by simp [results, Try.results20, go_sem]) rfl ⟨rfl, by (repeat' (first | (with_reducible exact Below.refl _ _) | (with_reducible assumption) | (with_reducible refine Below.alloc ?_ ?_ _) | (with_reducible refine below_drewN ?_ _) | (with_reducible refine Below.drew ?_) | (with_reducible refine Below.setCell ?_ ?_ _) | (with_reducible refine below_two ?_ (by with_reducible assumption)) | go_size))⟩

end Go.Proofs.Ytibpaomkaknbhaa
