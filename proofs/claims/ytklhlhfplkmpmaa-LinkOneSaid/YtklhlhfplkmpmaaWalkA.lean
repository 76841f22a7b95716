/-
  The walks of object and of turned (of both texts).
-/
import Derived.Test.YtklhlhfplkmpmaaRows
import Derived.Test.YtklhlhfplkmpmaaPlain
import Derived.Test.YtklhlhfplkmpmaaExt
import Derived.Test.YtklhlhfplkmpmaaBring
import Derived.Laws.BitsLemmas
import Derived.Laws.Bits64
import Derived.Laws.Bits64b
import Derived.Laws.ShiftsVar
import Derived.Laws.ShiftsVarLaws
import Derived.WalkKit
import Derived.Deep.DeepMust
import Derived.WalkSpells
import Derived.WalkLawsBesides
import Derived.Handy
import Derived.Lib.Hide
import Derived.Deep.QuietTactic
import Derived.BigQuiet
namespace Go.Proofs.Ytklhlhfplkmpmaa
open Go.RowKit

theorem object_any (i : Int) (w : World) : Calls Try.prog 23 #[.int .i64 i] w fun e w' => e = .returned (.bool (decide (0 ≤ i ∧ i < 16))) ∧ w' = w := by
  by_cases h0 : 0 ≤ i <;> by_cases h1 : i < 16
  all_goals
    go_enter Try.func23, Try.ntmps23
    go_wp2
    go_ret
    exact ⟨by simp [h0, h1], rfl⟩
theorem object_at (i : Int) (m : Bool) (h : decide (0 ≤ i ∧ i < 16) = m) (w : World) : Calls Try.prog 23 #[.int .i64 i] w fun e w' => e = .returned (.bool m) ∧ w' = w := h ▸ object_any i w

theorem orRot (s p m : Nat) (hs : s ≤ 64) (hp : p = 2 ^ s) (hm : m = 2 ^ (64 - s)) {key : Nat} (hk : key < 18446744073709551616) :
    bits .or .u64 (IntKind.u64.wrap ((key : Int) * (p : Int))) ((key : Int) / (m : Int)) = ((rotA s key : Nat) : Int) := by
  have hpm : p * m = 18446744073709551616 := by
    rw [hp, hm, ← Nat.pow_add, show s + (64 - s) = 64 by omega]
  have hp0 : 0 < p := by rw [hp]; exact Nat.two_pow_pos _
  have hm0 : 0 < m := by rw [hm]; exact Nat.two_pow_pos _
  have h1 : IntKind.u64.wrap ((key : Int) * (p : Int)) = ((key % m * p : Nat) : Int) := by
    rw [IntKind.wrap_u64, show (18446744073709551616 : Int) = ((m * p : Nat) : Int) by rw [Nat.mul_comm, hpm]; rfl, ← Int.natCast_mul, ← Int.natCast_emod, Nat.mul_mod_mul_right]
  have h2 : ((key : Int) / (m : Int)) = ((key / m : Nat) : Int) := by rw [Int.natCast_ediv]
  have hq : key / m < p := Nat.div_lt_of_lt_mul (by rw [Nat.mul_comm, hpm]; exact hk)
  have hr : key % m * p < 18446744073709551616 := by
    rw [← hpm, Nat.mul_comm p m]
    exact Nat.mul_lt_mul_of_pos_right (Nat.mod_lt _ hm0) hp0
  have hq' : key / m < 18446744073709551616 := Nat.lt_of_le_of_lt (Nat.div_le_self _ _) hk
  rw [h1, h2, bits_or_u64_nat _ _ hr hq']
  unfold rotA
  rw [← hm, ← hp, Nat.mul_comm (key % m) p]
  congr 1
  rw [hp] at hq ⊢
  exact (Nat.two_pow_add_eq_or_of_lt hq (key % m)).symm

theorem turn_eq {key : Nat} (hk : key < 18446744073709551616) (a s p m c : Nat) (hs : 5 * a % 64 = s) (hp : p = 2 ^ s) (hm : m = 2 ^ (64 - s)) (hc : c = a * 2654435769) :
    IntKind.u64.wrap (bits .or .u64 (IntKind.u64.wrap ((key : Int) * (p : Int))) ((key : Int) / (m : Int)) + (c : Int)) = ((turnF key a : Nat) : Int) := by
  have hs' : s < 64 := by rw [← hs]; exact Nat.mod_lt _ (by decide)
  rw [orRot s p m (by omega) hp hm hk, IntKind.wrap_u64]
  unfold turnF
  rw [rotN_eq hk, hs, hc]
  omega
theorem turn_zero {key : Nat} (hk : key < 18446744073709551616) : IntKind.u64.wrap (bits .or .u64 (key : Int) ((key : Int) / 18446744073709551616)) = ((turnF key 0 : Nat) : Int) := by
  have h0 : ((key : Int) / 18446744073709551616) = ((0 : Nat) : Int) := by omega
  rw [h0, bits_or_u64_nat key 0 hk (by decide), Nat.or_zero, IntKind.wrap_u64]
  unfold turnF
  rw [rotN]
  omega

theorem ret_u64 {a b : Int} (h : a = b) : Ending.returned (.int .u64 a) = .returned (.int .u64 b) := by rw [h]

set_option maxHeartbeats 4000000 in
theorem turned_any (key : Nat) (hk : key < 18446744073709551616) (a : Nat) (ha : a < 16) (w : World) : Calls Try.prog 24 #[.int .u64 key, .int .i64 a] w fun e w' =>
    e = .returned (.int .u64 (turnF key a)) ∧ w' = w := by
  obtain rfl | rfl | rfl | rfl | rfl | rfl | rfl | rfl | rfl | rfl | rfl | rfl | rfl | rfl | rfl | rfl : a = 0 ∨ a = 1 ∨ a = 2 ∨ a = 3 ∨ a = 4 ∨ a = 5 ∨ a = 6 ∨ a = 7 ∨ a = 8 ∨ a = 9 ∨ a = 10 ∨ a = 11 ∨ a = 12 ∨ a = 13 ∨ a = 14 ∨ a = 15 := by omega
  · have e1 : bits .and .u64 0 63 = 0 := by decide +kernel
    have HF := Lib.hid (turn_zero hk)
    clear ha
    go_enter Try.func24, Try.ntmps24
    go_wp2_with (first | go_in)
    go_ret
    exact ⟨ret_u64 HF.out, rfl⟩
  · have e1 : bits .and .u64 5 63 = 5 := by decide +kernel
    have HF := Lib.hid (turn_eq hk 1 5 32 576460752303423488 2654435769 (by decide) (by decide) (by decide) (by decide))
    clear ha
    go_enter Try.func24, Try.ntmps24
    go_wp2_with (first | go_in)
    go_ret
    exact ⟨ret_u64 HF.out, rfl⟩
  · have e1 : bits .and .u64 10 63 = 10 := by decide +kernel
    have HF := Lib.hid (turn_eq hk 2 10 1024 18014398509481984 5308871538 (by decide) (by decide) (by decide) (by decide))
    clear ha
    go_enter Try.func24, Try.ntmps24
    go_wp2_with (first | go_in)
    go_ret
    exact ⟨ret_u64 HF.out, rfl⟩
  · have e1 : bits .and .u64 15 63 = 15 := by decide +kernel
    have HF := Lib.hid (turn_eq hk 3 15 32768 562949953421312 7963307307 (by decide) (by decide) (by decide) (by decide))
    clear ha
    go_enter Try.func24, Try.ntmps24
    go_wp2_with (first | go_in)
    go_ret
    exact ⟨ret_u64 HF.out, rfl⟩
  · have e1 : bits .and .u64 20 63 = 20 := by decide +kernel
    have HF := Lib.hid (turn_eq hk 4 20 1048576 17592186044416 10617743076 (by decide) (by decide) (by decide) (by decide))
    clear ha
    go_enter Try.func24, Try.ntmps24
    go_wp2_with (first | go_in)
    go_ret
    exact ⟨ret_u64 HF.out, rfl⟩
  · have e1 : bits .and .u64 25 63 = 25 := by decide +kernel
    have HF := Lib.hid (turn_eq hk 5 25 33554432 549755813888 13272178845 (by decide) (by decide) (by decide) (by decide))
    clear ha
    go_enter Try.func24, Try.ntmps24
    go_wp2_with (first | go_in)
    go_ret
    exact ⟨ret_u64 HF.out, rfl⟩
  · have e1 : bits .and .u64 30 63 = 30 := by decide +kernel
    have HF := Lib.hid (turn_eq hk 6 30 1073741824 17179869184 15926614614 (by decide) (by decide) (by decide) (by decide))
    clear ha
    go_enter Try.func24, Try.ntmps24
    go_wp2_with (first | go_in)
    go_ret
    exact ⟨ret_u64 HF.out, rfl⟩
  · have e1 : bits .and .u64 35 63 = 35 := by decide +kernel
    have HF := Lib.hid (turn_eq hk 7 35 34359738368 536870912 18581050383 (by decide) (by decide) (by decide) (by decide))
    clear ha
    go_enter Try.func24, Try.ntmps24
    go_wp2_with (first | go_in)
    go_ret
    exact ⟨ret_u64 HF.out, rfl⟩
  · have e1 : bits .and .u64 40 63 = 40 := by decide +kernel
    have HF := Lib.hid (turn_eq hk 8 40 1099511627776 16777216 21235486152 (by decide) (by decide) (by decide) (by decide))
    clear ha
    go_enter Try.func24, Try.ntmps24
    go_wp2_with (first | go_in)
    go_ret
    exact ⟨ret_u64 HF.out, rfl⟩
  · have e1 : bits .and .u64 45 63 = 45 := by decide +kernel
    have HF := Lib.hid (turn_eq hk 9 45 35184372088832 524288 23889921921 (by decide) (by decide) (by decide) (by decide))
    clear ha
    go_enter Try.func24, Try.ntmps24
    go_wp2_with (first | go_in)
    go_ret
    exact ⟨ret_u64 HF.out, rfl⟩
  · have e1 : bits .and .u64 50 63 = 50 := by decide +kernel
    have HF := Lib.hid (turn_eq hk 10 50 1125899906842624 16384 26544357690 (by decide) (by decide) (by decide) (by decide))
    clear ha
    go_enter Try.func24, Try.ntmps24
    go_wp2_with (first | go_in)
    go_ret
    exact ⟨ret_u64 HF.out, rfl⟩
  · have e1 : bits .and .u64 55 63 = 55 := by decide +kernel
    have HF := Lib.hid (turn_eq hk 11 55 36028797018963968 512 29198793459 (by decide) (by decide) (by decide) (by decide))
    clear ha
    go_enter Try.func24, Try.ntmps24
    go_wp2_with (first | go_in)
    go_ret
    exact ⟨ret_u64 HF.out, rfl⟩
  · have e1 : bits .and .u64 60 63 = 60 := by decide +kernel
    have HF := Lib.hid (turn_eq hk 12 60 1152921504606846976 16 31853229228 (by decide) (by decide) (by decide) (by decide))
    clear ha
    go_enter Try.func24, Try.ntmps24
    go_wp2_with (first | go_in)
    go_ret
    exact ⟨ret_u64 HF.out, rfl⟩
  · have e1 : bits .and .u64 65 63 = 1 := by decide +kernel
    have HF := Lib.hid (turn_eq hk 13 1 2 9223372036854775808 34507664997 (by decide) (by decide) (by decide) (by decide))
    clear ha
    go_enter Try.func24, Try.ntmps24
    go_wp2_with (first | go_in)
    go_ret
    exact ⟨ret_u64 HF.out, rfl⟩
  · have e1 : bits .and .u64 70 63 = 6 := by decide +kernel
    have HF := Lib.hid (turn_eq hk 14 6 64 288230376151711744 37162100766 (by decide) (by decide) (by decide) (by decide))
    clear ha
    go_enter Try.func24, Try.ntmps24
    go_wp2_with (first | go_in)
    go_ret
    exact ⟨ret_u64 HF.out, rfl⟩
  · have e1 : bits .and .u64 75 63 = 11 := by decide +kernel
    have HF := Lib.hid (turn_eq hk 15 11 2048 9007199254740992 39816536535 (by decide) (by decide) (by decide) (by decide))
    clear ha
    go_enter Try.func24, Try.ntmps24
    go_wp2_with (first | go_in)
    go_ret
    exact ⟨ret_u64 HF.out, rfl⟩

set_option maxHeartbeats 1000000 in
theorem refTurned_any (key : Nat) (hk : key < 18446744073709551616) (a : Nat) (ha : a < 16) (w : World) : Calls Try.prog 25 #[.int .u64 key, .int .i64 a] w fun e w' =>
    e = .returned (.int .u64 (turnF key a)) ∧ w' = w := by
  go_enter Try.func25, Try.ntmps25
  go_wp2
  go_loop [6, 5] (fun j t => ∃ k : Nat, k ≤ 5 * a ∧ j = .int .i64 k ∧ t = .int .u64 (rotN k key)) (fun j _ => 5 * a - (intOf j).toNat)
  case atStart => exact ⟨0, by omega, rfl, rfl⟩
  case round =>
    obtain ⟨k, hk', rfl, rfl⟩ := hrel
    have hx := rotN_lt hk k
    by_cases hlt : k < 5 * a
    · have HR := Lib.hid (orRot 1 2 9223372036854775808 (by omega) (by decide) (by decide) hx)
      go_wp2
      go_round
      case rel => exact ⟨k + 1, by omega, by go_num, by rw [show rotN (k + 1) key = rotA 1 (rotN k key) from rfl, ← HR.out]; rfl⟩
      case measure => simp [intOf]; omega
    · have hk5 : k = 5 * a := by omega
      subst hk5
      clear hlt hk'
      obtain ⟨x, hX⟩ : ∃ x, rotN (5 * a) key = x := ⟨_, rfl⟩
      rw [hX] at hx ⊢
      have HX := Lib.hid hX
      clear hX
      go_wp2
      go_loop [7, 5] (fun j t => ∃ k : Nat, k ≤ a ∧ j = .int .i64 k ∧ t = .int .u64 (((x + k * 2654435769) % 18446744073709551616 : Nat) : Int)) (fun j _ => a - (intOf j).toNat)
      case atStart => exact ⟨0, by omega, rfl, by rw [Nat.zero_mul, Nat.add_zero, Nat.mod_eq_of_lt hx]⟩
      case round =>
        obtain ⟨k, hk', rfl, rfl⟩ := hrel
        by_cases hlt : k < a
        · obtain ⟨y, hY⟩ : ∃ y, (x + k * 2654435769) % 18446744073709551616 = y := ⟨_, rfl⟩
          have HY : Hid (IntKind.u64.wrap ((y : Int) + 2654435769) = (((x + (k + 1) * 2654435769) % 18446744073709551616 : Nat) : Int)) := Lib.hid (by
            rw [IntKind.wrap_u64, ← hY]
            omega)
          have hy : y < 18446744073709551616 := by rw [← hY]; exact Nat.mod_lt _ (by decide)
          rw [hY]
          clear hY
          go_wp2
          go_round
          case rel => exact ⟨k + 1, by omega, by go_num, by rw [← HY.out]⟩
          case measure => simp [intOf]; omega
        · have hka : k = a := by omega
          subst hka
          have HT : Hid ((x + k * 2654435769) % 18446744073709551616 = turnF key k) := Lib.hid (by unfold turnF; rw [HX.out])
          obtain ⟨y, hY⟩ : ∃ y, (x + k * 2654435769) % 18446744073709551616 = y := ⟨_, rfl⟩
          rw [hY] at HT ⊢
          clear hY
          go_wp2
          go_ret
          exact ⟨by rw [← HT.out]; rfl, rfl⟩

end Go.Proofs.Ytklhlhfplkmpmaa
