/-
  The walk of MemOne.
-/
import Derived.Test.YtfhbfjlbflkbhaaLawB
import Derived.WalkKit
import Derived.Deep.DeepMust
import Derived.WalkSpells
import Derived.WalkLawsBesides
import Derived.Handy
import Derived.Lib.Hide
import Derived.Deep.QuietTactic
import Derived.BigQuiet
namespace Go.Proofs.Ytfhbfjlbflkbhaa
open Go.RowKit

theorem cs2 (a d v : Nat) : csA [a, d] 0 v = decide (a = v) := by simp [csA, okA, atA]
theorem ds2 (a d v : Nat) : dsA [a, d] 0 v 0 = decide (a = v ∧ d = 0) := by simp [dsA, okA, atA]
theorem cw2 (a d v t : Nat) : cwA [a, d] 0 v t = if a = v then [t, d] else [a, d] := by
  unfold cwA
  rw [cs2]
  by_cases h : a = v <;> simp [h]
theorem dw2 (a d v t : Nat) : dwA [a, d] 0 v 0 t 1 = if a = v ∧ d = 0 then [t, 1] else [a, d] := by
  unfold dwA
  rw [ds2]
  by_cases h : a = v ∧ d = 0 <;> simp [h]
theorem er21 : erA 2 1 0 = 0 := by decide
theorem cn21 (k : Nat) : k + cnA 2 1 0 = k + 1 := by rw [show cnA 2 1 0 = 1 from by decide]
theorem er22 : erA 2 2 0 = 0 := by decide
theorem cn22 (k : Nat) : k + cnA 2 2 0 = k + 1 := by rw [show cnA 2 2 0 = 1 from by decide]
/-- What is known of the two words at each round's head. -/
def OneInv (v k a d : Nat) : Prop := (k = 0 ∧ a = v ∧ d = 0) ∨ (0 < k ∧ a ≠ v)
theorem one_next {v k a d t : Nat} (ht : t ≠ v) (h : OneInv v k a d) : (∃ a' d', cwA [a, d] 0 v t = [a', d'] ∧ OneInv v (k + 1) a' d') ∧ ∃ a' d', dwA [a, d] 0 v 0 t 1 = [a', d'] ∧ OneInv v (k + 1) a' d' := by
  rw [cw2, dw2]
  rcases h with ⟨h0, h1, h2⟩ | ⟨h0, h1⟩
  · rw [if_pos h1, if_pos ⟨h1, h2⟩]
    exact ⟨⟨t, d, rfl, .inr ⟨by omega, ht⟩⟩, t, 1, rfl, .inr ⟨by omega, ht⟩⟩
  · rw [if_neg h1, if_neg (fun h => h1 h.1)]
    exact ⟨⟨a, d, rfl, .inr ⟨by omega, h1⟩⟩, a, d, rfl, .inr ⟨by omega, h1⟩⟩
theorem one_is {v k a d : Nat} {B : Bool} (h : OneInv v k a d) (hB : decide (k = 0) = B) : csA [a, d] 0 v = B ∧ dsA [a, d] 0 v 0 = B := by
  rw [cs2, ds2, ← hB]
  rcases h with ⟨h0, h1, h2⟩ | ⟨h0, h1⟩
  · simp [h0, h1, h2]
  · have : k ≠ 0 := by omega
    simp [h1, this]

set_option maxRecDepth 100000 in
set_option maxHeartbeats 4000000 in
theorem one_any (v : Nat) (xs : List Nat) (A : Option Addr) (c : Nat) (two : Bool) (hl : xs.length ≤ 9223372036854775807) (w : World) (hA : Row w A (wordV xs)) :
    Calls Try.prog 4 #[.int .u64 (v : Int), .slice A xs.length c, .bool two] w fun e w' => e = .returned (.bool true) ∧ Below w.heap.size w w' := by
  have hl2 : ∀ a b : Nat, Hid (List.length [a, b] = 2) := fun _ _ => Lib.hid rfl
  have HA := Lib.hid hA.toB
  have HV : Hid (IntKind.u64.wrap ((v : Int) + 1) = (((v + 1) % 18446744073709551616 : Nat) : Int)) := Lib.hid (wrap_add v 1)
  obtain ⟨t, ht⟩ : ∃ t, (v + 1) % 18446744073709551616 = t := ⟨_, rfl⟩
  rw [ht] at HV
  have htv : t ≠ v := by omega
  obtain ⟨L, hL⟩ : ∃ L, xs.length = L := ⟨_, rfl⟩
  rw [hL] at hl ⊢
  have HL := Lib.hid hL
  clear hA hL ht
  go_enter Try.func4, Try.ntmps4
  go_wp2_with (first | (go_at_call 10; with_reducible refine (new_z 2 2 rfl (by omega) (by omega) [0, 0] rfl _).mono ?_; rintro e w1 ⟨b, g, rfl, hM, hb, hg, hB⟩) | (go_at_call 13; with_reducible refine (store_z _ b g [0, 0] 0 2 hM (hl2 _ _) (by omega) (by omega) 0 v v rfl [v, 0] 0 1 rfl rfl rfl).mono ?_; rintro e w1 ⟨rfl, hN, hT⟩; replace hB := hT.below hB hb hg hB.size; clear hT hM; have hM := hN; clear hN))
  go_loopw [9, 10] (fun u j wr => ∃ k a d cnt : Nat, k ≤ L ∧ k ≤ 40 ∧ j = .int .i64 k ∧ u = .int .i64 (min k 1 : Nat) ∧ cnt ≤ k + 1 ∧ OneInv v k a d ∧ MemAt 52 wr b g [a, d] cnt ∧ Below w.heap.size w wr) (fun _ j _ => 40 - (intOf j).toNat)
  case atStart => exact ⟨0, v, 0, 1, by omega, by omega, rfl, rfl, by omega, .inl ⟨rfl, rfl, rfl⟩, hM, hB⟩
  case round =>
    clear hM hB
    obtain ⟨k, a, d, cnt, hkL, hk40, rfl, rfl, hcn, hI, hM, hB⟩ := hrel
    have hz := hB.size
    by_cases hlt : k < L ∧ k < 40
    · obtain ⟨hlt1, hlt2⟩ := hlt
      obtain ⟨b0, off, rfl, hbl, hcell⟩ := HA.out (by rw [List.length_map, HL.out]; omega)
      obtain ⟨x, hx⟩ : ∃ x, xs.getD k 0 = x := ⟨_, rfl⟩
      have ec : wr.cell? ⟨b0, off + k, none⟩ = some (.int .u64 (x : Int)) := (hB.cell (p := ⟨b0, off + k, none⟩) hbl).trans (hcell k _ (by
        rw [List.getElem?_map, List.getElem?_eq_getElem (by rw [HL.out]; exact hlt1), ← hx, List.getD_eq_getElem?_getD, List.getElem?_eq_getElem (by rw [HL.out]; exact hlt1)]; rfl))
      have k0 : (0 : Int) ≤ (k : Int) := by omega
      have k1 : (k : Int) < (L : Int) := by omega
      have k2 : (k : Int) < 40 := by omega
      clear hcell hx
      have HI := Lib.hid (one_next (t := t) htv hI)
      have HI2 := Lib.hid (fun h : x ≠ v => one_next h hI)
      have er1 := er21
      by_cases hk0 : k = 0
      · obtain ⟨hB1, hB2⟩ := one_is (B := true) hI (decide_eq_true hk0)
        have k3 : ((k : Int) == 0) = true := by rw [beq_iff_eq]; omega
        have m1 : ((min k 1 : Nat) : Int) = 0 := by omega
        have HM : Hid (((min (k + 1) 1 : Nat) : Int) = 1) := Lib.hid (by omega)
        have hv1 := HV.out
        have HB1 := Lib.hid hB1
        have HB2 := Lib.hid hB2
        clear hB1 hB2 hI hk0
        by_cases hxv : (x : Int) = (v : Int)
        all_goals cases two
        all_goals go_wp2_with (first | (go_at_call 14; with_reducible refine (cas2_z _ b g [a, d] cnt 2 hM (hl2 _ _) (by omega) (by omega) 0 v 0 _ 1 v 0 _ 1 rfl rfl rfl rfl _ _ 0 (cnt + 1) rfl HB2.out er22 (cn22 cnt)).mono ?_; rintro e w1 ⟨rfl, hN, hT⟩; replace hB := hT.below hB hb hg hB.size; clear hT hM; have hM := hN; clear hN) | (go_at_call 15; with_reducible refine (cas_z _ b g [a, d] cnt 2 hM (hl2 _ _) (by omega) (by omega) 0 v _ v _ rfl rfl _ _ 0 (cnt + 1) rfl HB1.out er21 (cn21 cnt)).mono ?_; rintro e w1 ⟨rfl, hN, hT⟩; replace hB := hT.below hB hb hg hB.size; clear hT hM; have hM := hN; clear hN))
        all_goals
          go_roundw
          case rel => first | (obtain ⟨a', d', he, hI'⟩ := HI.out.1; rw [he] at hM; exact ⟨k + 1, a', d', cnt + 1, by omega, by omega, by go_num, by rw [HM.out], by omega, hI', hM, hB⟩) | (obtain ⟨a', d', he, hI'⟩ := HI.out.2; rw [he] at hM; exact ⟨k + 1, a', d', cnt + 1, by omega, by omega, by go_num, by rw [HM.out], by omega, hI', hM, hB⟩) | (obtain ⟨a', d', he, hI'⟩ := (HI2.out (by omega)).1; rw [he] at hM; exact ⟨k + 1, a', d', cnt + 1, by omega, by omega, by go_num, by rw [HM.out], by omega, hI', hM, hB⟩) | (obtain ⟨a', d', he, hI'⟩ := (HI2.out (by omega)).2; rw [he] at hM; exact ⟨k + 1, a', d', cnt + 1, by omega, by omega, by go_num, by rw [HM.out], by omega, hI', hM, hB⟩)
          case measure => simp [intOf]; omega
      · obtain ⟨hB1, hB2⟩ := one_is (B := false) hI (decide_eq_false hk0)
        have k3 : ((k : Int) == 0) = false := by rw [beq_eq_false_iff_ne]; omega
        have m1 : ((min k 1 : Nat) : Int) = 1 := by omega
        have HM : Hid (((min (k + 1) 1 : Nat) : Int) = 1) := Lib.hid (by omega)
        have hv1 := HV.out
        have HB1 := Lib.hid hB1
        have HB2 := Lib.hid hB2
        clear hB1 hB2 hI hk0
        by_cases hxv : (x : Int) = (v : Int)
        all_goals cases two
        all_goals go_wp2_with (first | (go_at_call 14; with_reducible refine (cas2_z _ b g [a, d] cnt 2 hM (hl2 _ _) (by omega) (by omega) 0 v 0 _ 1 v 0 _ 1 rfl rfl rfl rfl _ _ 0 (cnt + 1) rfl HB2.out er22 (cn22 cnt)).mono ?_; rintro e w1 ⟨rfl, hN, hT⟩; replace hB := hT.below hB hb hg hB.size; clear hT hM; have hM := hN; clear hN) | (go_at_call 15; with_reducible refine (cas_z _ b g [a, d] cnt 2 hM (hl2 _ _) (by omega) (by omega) 0 v _ v _ rfl rfl _ _ 0 (cnt + 1) rfl HB1.out er21 (cn21 cnt)).mono ?_; rintro e w1 ⟨rfl, hN, hT⟩; replace hB := hT.below hB hb hg hB.size; clear hT hM; have hM := hN; clear hN))
        all_goals
          go_roundw
          case rel => first | (obtain ⟨a', d', he, hI'⟩ := HI.out.1; rw [he] at hM; exact ⟨k + 1, a', d', cnt + 1, by omega, by omega, by go_num, by rw [HM.out], by omega, hI', hM, hB⟩) | (obtain ⟨a', d', he, hI'⟩ := HI.out.2; rw [he] at hM; exact ⟨k + 1, a', d', cnt + 1, by omega, by omega, by go_num, by rw [HM.out], by omega, hI', hM, hB⟩) | (obtain ⟨a', d', he, hI'⟩ := (HI2.out (by omega)).1; rw [he] at hM; exact ⟨k + 1, a', d', cnt + 1, by omega, by omega, by go_num, by rw [HM.out], by omega, hI', hM, hB⟩) | (obtain ⟨a', d', he, hI'⟩ := (HI2.out (by omega)).2; rw [he] at hM; exact ⟨k + 1, a', d', cnt + 1, by omega, by omega, by go_num, by rw [HM.out], by omega, hI', hM, hB⟩)
          case measure => simp [intOf]; omega
    · have hmn : min (L : Int) 1 = ((min k 1 : Nat) : Int) := by omega
      by_cases hkl : k < L
      all_goals
        go_wp2_with (first | (go_at_call 8; with_reducible refine (works_any _).mono ?_; rintro e w3 ⟨rfl, hb3⟩))
        go_ret
        exact ⟨rfl, by (repeat' (first | (with_reducible exact Below.refl _ _) | (with_reducible assumption) | (with_reducible refine Below.alloc ?_ ?_ _) | (with_reducible refine below_drewN ?_ _) | (with_reducible refine Below.drew ?_) | (with_reducible refine Below.setCell ?_ ?_ _) | (with_reducible refine below_two ?_ (by with_reducible assumption)) | go_size))⟩

end Go.Proofs.Ytfhbfjlbflkbhaa
