/-
  The walk of MemAdds.
-/
import Derived.Test.YtfhbfjlbflkbhaaLawA
import Derived.Test.YtfhbfjlbflkbhaaPlain
import Derived.Test.YtfhbfjlbflkbhaaBring
import Derived.Lib.MinMax
import Derived.WalkKit
import Derived.Deep.DeepMust
import Derived.WalkSpells
import Derived.WalkLawsBesides
import Derived.Handy
import Derived.Lib.Hide
import Derived.Deep.QuietTactic
import Derived.BigQuiet
namespace Go.Proofs.Ytfhbfjlbflkbhaa
open Go.RowKit

theorem ld3 (a s c : Nat) : (ldA [a, s, c] 1 : Int) = (s : Int) := by simp [ldA, okA, atA]
theorem er3 : erA 3 1 1 = 0 := by decide
theorem cn3 (k : Nat) : k + cnA 3 1 1 = k + 1 := by rw [show cnA 3 1 1 = 1 from by decide]
theorem ad3 (s x : Nat) : adA [0, s, 0] 1 x = [0, (s + x) % 18446744073709551616, 0] := by simp [adA, stA, okA, atA]
theorem bring_n (i n : Int) (r : Nat) (h : i % n = (r : Int)) (hn : 1 ≤ n) (hn' : n ≤ 4611686018427387904) (w : World) : Calls Try.prog 9 #[.int .i64 i, .int .i64 n] w fun e w' =>
    e = .returned (.int .i64 (r : Int)) ∧ w' = w := h ▸ bring_any i n hn hn' w

set_option maxRecDepth 100000 in
set_option maxHeartbeats 4000000 in
theorem adds_pos (f : Nat → Nat) (L n c b0 off : Nat) (first : Int) (r : Nat) (hL : 1 ≤ L) (hL2 : L ≤ 9223372036854775807) (hLc : L ≤ c) (hn : min (L : Int) 60 = (n : Int)) (hn1 : 1 ≤ n) (hn2 : n ≤ 60) (hnL : n ≤ L) (hr : Hid (first % (n : Int) = (r : Int))) (hrn : r < n) (w : World) (hbl : b0 < w.heap.size)
    (hA : ∀ j, j < L → w.cell? ⟨b0, off + j, none⟩ = some (.int .u64 (f j : Nat))) :
    Calls Try.prog 3 #[.slice (some ⟨b0, off, none⟩) L c, .int .i64 first] w fun e w' => e = .returned (.bool true) ∧ Below w.heap.size w w' := by
  have hl3 : ∀ a b c : Nat, Hid (List.length [a, b, c] = 3) := fun _ _ _ => Lib.hid rfl
  have HA := Lib.hid hA
  have h0 : ((L : Int) == 0) = false := by rw [beq_eq_false_iff_ne]; omega
  have HT := Lib.hid (sum_turn f hrn)
  clear hA
  go_enter Try.func3, Try.ntmps3
  go_wp2_with (first | (go_at_call 8; with_reducible refine (works_any _).mono ?_; rintro e w0 ⟨rfl, hb0⟩; have z0 := hb0.size) | (go_at_call 9; with_reducible refine (bring_n first n r hr.out (by omega) (by omega) _).mono ?_; rintro e w0 ⟨rfl, hw0⟩; replace hw0 := hw0.symm; subst hw0) | (go_at_call 10; with_reducible refine (new_z 3 3 rfl (by omega) (by omega) [0, 0, 0] rfl _).mono ?_; (first | (have _t := hM; rintro e w2 ⟨b', g', rfl, hM', hb', hg', hB'⟩; have hb1 := hM.head.lt; have hg1 := hM.row.lt; replace hM := hM.below hB') | (rintro e w1 ⟨b, g, rfl, hM, hb, hg, hB⟩))))
  have q2 : Below w.heap.size w w2 := by have z1 := hB.size; (repeat' (first | (with_reducible exact Below.refl _ _) | (with_reducible assumption) | (with_reducible refine Below.alloc ?_ ?_ _) | (with_reducible refine below_drewN ?_ _) | (with_reducible refine Below.drew ?_) | (with_reducible refine Below.setCell ?_ ?_ _) | (with_reducible refine below_two ?_ (by with_reducible assumption)) | go_size))
  have z2 := q2.size
  have n1 : b' ≠ b := by omega
  have n2 : b' ≠ g := by omega
  have n3 : g' ≠ b := by omega
  have n4 : g' ≠ g := by omega
  have zb := Nat.le_trans z0 hb
  have zg := Nat.le_trans z0 hg
  have zb' : w.heap.size ≤ b' := by omega
  have zg' : w.heap.size ≤ g' := by omega
  clear hb0 hB hB' hb1 hg1 z0 hb hg hb' hg' _t
  go_loopw [10, 11] (fun t j wr => ∃ k : Nat, k ≤ n ∧ j = .int .i64 k ∧ t = .int .u64 (sumM f k : Nat) ∧ MemAt 52 wr b g [0, sumM f k, 0] k ∧ MemAt 52 wr b' g' [0, sumM (fun i => f ((i + r) % n)) k, 0] k ∧ Below w.heap.size w wr) (fun _ j _ => n - (intOf j).toNat)
  case atStart => exact ⟨0, by omega, rfl, rfl, hM, hM', q2⟩
  case round =>
    clear hM hM' q2 z2
    obtain ⟨k, hk, rfl, rfl, hM, hM', hw⟩ := hrel
    have hz := hw.size
    by_cases hlt : k < n
    · obtain ⟨s, hs⟩ : ∃ s, sumM f k = s := ⟨_, rfl⟩
      obtain ⟨t, ht⟩ : ∃ t, sumM (fun i => f ((i + r) % n)) k = t := ⟨_, rfl⟩
      obtain ⟨x, hx⟩ : ∃ x, f k = x := ⟨_, rfl⟩
      obtain ⟨y, hy⟩ : ∃ y, f ((k + r) % n) = y := ⟨_, rfl⟩
      have hcx := HA.out k (by omega)
      obtain ⟨j, hj⟩ : ∃ j, (k + r) % n = j := ⟨_, rfl⟩
      have hjn : j < n := by rw [← hj]; exact Nat.mod_lt _ (by omega)
      have hcy := HA.out j (by omega)
      rw [hs] at hM
      rw [ht] at hM'
      have HS : Hid (sumM f (k + 1) = (s + x) % 18446744073709551616) := Lib.hid (by rw [sumM, hs, hx])
      have HU : Hid (sumM (fun i => f ((i + r) % n)) (k + 1) = (t + y) % 18446744073709551616) := Lib.hid (by rw [sumM, ht, hy])
      have HW : Hid (IntKind.u64.wrap ((s : Int) + (x : Int)) = (((s + x) % 18446744073709551616 : Nat) : Int)) := Lib.hid (wrap_add s x)
      have hji : ((k : Int) + (r : Int)) % (n : Int) = (j : Int) := by rw [← hj]; simp
      rw [hj] at hy
      rw [hx] at hcx
      rw [hy] at hcy
      have HX := Lib.hid hcx
      have HY := Lib.hid hcy
      have ec := (hw.cell (p := ⟨b0, off + k, none⟩) hbl).trans HX.out
      clear hcx hcy
      rw [hs]
      have HJ := Lib.hid hji
      clear hs ht hx hy hj hji
      have j0 : (0 : Int) ≤ (j : Int) := by omega
      have j1 : (j : Int) < (n : Int) := by omega
      have k0 : (0 : Int) ≤ (k : Int) := by omega
      have k1 : (k : Int) < (n : Int) := by omega
      have hji := HJ.out
      go_wp2_with (first | (go_at_call 11; with_reducible refine (add_z _ b g [0, s, 0] k 3 hM (hl3 _ _ _) (by omega) (by omega) 1 x x rfl _ s 0 (k + 1) (ad3 s x) (ld3 0 s 0) er3 (cn3 k)).mono ?_; rintro e w3 ⟨rfl, hN, hT⟩; replace hw := hT.below hw zb zg hz; replace hM' := hM'.two hT n1 n2 n3 n4; have hz := hw.size; have ed := (hw.cell (p := ⟨b0, off + j, none⟩) hbl).trans HY.out; clear hT hM) | (go_at_call 11; with_reducible refine (add_z _ b' g' [0, t, 0] k 3 hM' (hl3 _ _ _) (by omega) (by omega) 1 y y rfl _ t 0 (k + 1) (ad3 t y) (ld3 0 t 0) er3 (cn3 k)).mono ?_; rintro e w4 ⟨rfl, hN', hT⟩; replace hw := hT.below hw zb' zg' hz; replace hN := hN.two hT n1.symm n3.symm n2.symm n4.symm; have ef := (hw.cell (p := ⟨b0, off + k, none⟩) hbl).trans HX.out; clear hT hM'))
      go_roundw
      case rel => exact ⟨k + 1, by omega, by go_num, by rw [HS.out, HW.out], by rw [HS.out]; exact hN, by rw [HU.out]; exact hN', hw⟩
      case measure => simp [intOf]; omega
    · have hkn : k = n := by omega
      subst hkn
      rw [HT.out] at hM'
      generalize sumM f k = s at hM hM' ⊢
      clear HT
      go_wp2_with (first | (go_at_call 12; with_reducible refine (load_z _ b g [0, s, 0] k 3 hM (hl3 _ _ _) (by omega) (by omega) 1 s 0 (k + 1) (ld3 0 s 0) er3 (cn3 k)).mono ?_; rintro e w3 ⟨rfl, hN, hT⟩; replace hw := hT.below hw zb zg hz; replace hM' := hM'.two hT n1 n2 n3 n4; have hz := hw.size; clear hT hM) | (go_at_call 12; with_reducible refine (load_z _ b' g' [0, s, 0] k 3 hM' (hl3 _ _ _) (by omega) (by omega) 1 s 0 (k + 1) (ld3 0 s 0) er3 (cn3 k)).mono ?_; rintro e w4 ⟨rfl, hN', hT⟩; replace hw := hT.below hw zb' zg' hz; clear hT hM'))
      go_ret
      exact ⟨rfl, hw⟩

theorem adds_any (xs : List Nat) (A : Option Addr) (c : Nat) (first : Int) (hl : xs.length ≤ maxLen) (hc : xs.length ≤ c) (w : World) (hA : Row w A (wordV xs)) :
    Calls Try.prog 3 #[.slice A xs.length c, .int .i64 first] w fun e w' => e = .returned (.bool true) ∧ Below w.heap.size w w' := by
  unfold maxLen at hl
  rcases Nat.eq_zero_or_pos xs.length with h0 | hp
  · rw [h0]
    clear h0 hA hl hc
    go_enter Try.func3, Try.ntmps3
    go_wp2_with (first | (go_at_call 8; with_reducible refine (works_any _).mono ?_; (first | (have _t := hb0; rintro e w1 ⟨rfl, hb1⟩) | (rintro e w0 ⟨rfl, hb0⟩))))
    go_ret
    exact ⟨rfl, by (repeat' (first | (with_reducible exact Below.refl _ _) | (with_reducible assumption) | (with_reducible refine Below.alloc ?_ ?_ _) | (with_reducible refine below_drewN ?_ _) | (with_reducible refine Below.drew ?_) | (with_reducible refine Below.setCell ?_ ?_ _) | (with_reducible refine below_two ?_ (by with_reducible assumption)) | go_size))⟩
  · obtain ⟨b0, off, rfl, hbl, hcell⟩ := hA (by simpa using hp)
    have hf : ∀ j, j < xs.length → w.cell? ⟨b0, off + j, none⟩ = some (.int .u64 (xs.getD j 0 : Nat)) := fun j hj => hcell j _ (by rw [List.getElem?_map, List.getD_eq_getElem?_getD, List.getElem?_eq_getElem hj]; rfl)
    obtain ⟨n, hn⟩ : ∃ n : Nat, min (xs.length : Int) 60 = (n : Int) := ⟨(min (xs.length : Int) 60).toNat, by omega⟩
    obtain ⟨r, hr⟩ : ∃ r : Nat, first % (n : Int) = (r : Int) := ⟨(first % (n : Int)).toNat, (Int.toNat_of_nonneg (Int.emod_nonneg _ (by omega))).symm⟩
    have hrn : (r : Int) < n := by rw [← hr]; exact Int.emod_lt_of_pos _ (by omega)
    exact adds_pos (fun j => xs.getD j 0) xs.length n c b0 off first r hp hl hc hn (by omega) (by omega) (by omega) (Lib.hid hr) (by omega) w hbl hf

end Go.Proofs.Ytfhbfjlbflkbhaa
