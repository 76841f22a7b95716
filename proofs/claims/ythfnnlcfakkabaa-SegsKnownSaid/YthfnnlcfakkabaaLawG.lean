/-
  The walk of the closed law SegsKnown.
-/
import Derived.Test.YthfnnlcfakkabaaLawF
import Derived.Test.YthfnnlcfakkabaaOpenSegs
import Derived.WalkKit
import Derived.Deep.DeepMust
import Derived.WalkSpells
import Derived.WalkLawsBesides
import Derived.Handy
import Derived.Lib.Hide
import Derived.Deep.QuietTactic
import Derived.BigQuiet
namespace Go.Proofs.Ythfnnlcfakkabaa
open Go.RowKit

def bigL (n : Nat) : List Wt := (List.range n).map fun (i : Nat) => ⟨(i : Int), 1 + (i : Int) / 50⟩
theorem bigL_len (n : Nat) : (bigL n).length = n := by simp [bigL]
theorem bigL_at {n i : Nat} (h : i < (bigL n).length) : (bigL n)[i] = ⟨(i : Int), 1 + (i : Int) / 50⟩ := by simp [bigL]

theorem made_waits (w : World) : ∃ cs : Array Value, cs.size = 514 ∧ (Instr.makeSlice 22 (.int .i64 257) (.int .i64 257)).run Try.prog w = .ok (.slice (some ⟨w.heap.size, 0, none⟩) 257 257) (w.alloc (.cells cs 24)) := by
  obtain ⟨i0, hi, hz0, hz1, hz2⟩ := info_parts Try.info24
  have := run_make (P := Try.prog) w 22 24 i0 (.agg #[.int .i64 0, .int .i64 0]) Try.underlying22 hi hz0 .i64 .i64 257 257 (by omega) (by omega) (by rw [hz2]; omega) (by omega)
  rw [hz1] at this
  exact ⟨_, by rw [size_madeCells]; rfl, this⟩

/-- What holds of the great row behind k rounds. -/
def BigAt (cs : Array Value) (k : Nat) : Prop := cs.size = 514 ∧ ∀ i, i < k → cs[i * 2]? = some (.int .i64 (i : Int)) ∧ cs[i * 2 + 1]? = some (.int .i64 (1 + (i : Int) / 50))
theorem BigAt.next {cs : Array Value} {k : Nat} (h : BigAt cs k) (hk : k < 257) : BigAt ((cs.setIfInBounds (k * 2) (.int .i64 (k : Int))).setIfInBounds (k * 2 + 1) (.int .i64 (1 + (k : Int) / 50))) (k + 1) := by
  obtain ⟨hs, hc⟩ := h
  refine ⟨by simp [hs], fun i hi => ?_⟩
  by_cases hik : i = k
  · subst hik
    constructor
    · rw [Array.getElem?_setIfInBounds_ne (by omega), Array.getElem?_setIfInBounds_self_of_lt (by omega)]
    · rw [Array.getElem?_setIfInBounds_self_of_lt (by simp [hs]; omega)]
  · obtain ⟨h0, h1⟩ := hc i (by omega)
    constructor
    · rw [Array.getElem?_setIfInBounds_ne (by omega), Array.getElem?_setIfInBounds_ne (by omega)]; exact h0
    · rw [Array.getElem?_setIfInBounds_ne (by omega), Array.getElem?_setIfInBounds_ne (by omega)]; exact h1
theorem BigAt.row {w : World} {g : Nat} {cs : Array Value} (hB : Blk w g 24 cs) (h : BigAt cs 257) : WRow w (some ⟨g, 0, none⟩) (bigL 257) := fun _ =>
  ⟨g, 0, rfl, hB.lt, wrow_of fun i hi => by
    rw [bigL_at hi]
    rw [bigL_len] at hi
    obtain ⟨h0, h1⟩ := h.2 i hi
    exact ⟨by rw [Nat.zero_add, hB.cell]; exact h0, by rw [Nat.zero_add, hB.cell]; exact h1⟩⟩

set_option maxRecDepth 100000 in
set_option maxHeartbeats 8000000 in
theorem known_any (w : World) : Calls Try.prog 8 #[] w fun e w' => e = .returned (.bool true) ∧ Below w.heap.size w w' := by
  obtain ⟨cs0, hs0, hmk⟩ := made_waits w
  have HB0 : Hid (BigAt cs0 0) := Lib.hid ⟨hs0, fun i hi => absurd hi (Nat.not_lt_zero i)⟩
  have l256 : Hid (((bigL 257).take 256).length = 256) := Lib.hid (by rw [List.length_take, bigL_len]; rfl)
  have l255 : Hid (((bigL 257).take 255).length = 255) := Lib.hid (by rw [List.length_take, bigL_len]; rfl)
  have l257 : Hid ((bigL 257).length = 257) := Lib.hid (bigL_len _)
  have e256 : Hid (errC ((bigL 257).take 256) = 0) := Lib.hid (by decide +kernel)
  clear hs0
  go_enter Try.func8, Try.ntmps8
  go_wp2
  go_loopw [2] (fun j wr => ∃ (k : Nat) (cs : Array Value), k ≤ 257 ∧ j = .int .i64 k ∧ Blk wr w.heap.size 24 cs ∧ Hid (BigAt cs k) ∧ Below w.heap.size w wr) (fun j _ => 257 - (intOf j).toNat)
  case atStart => exact ⟨0, cs0, by omega, rfl, Blk.new w 24 cs0, HB0, by (repeat' (first | (with_reducible exact Below.refl _ _) | (with_reducible assumption) | (with_reducible refine Below.alloc ?_ ?_ _) | (with_reducible refine below_drewN ?_ _) | (with_reducible refine Below.drew ?_) | (with_reducible refine Below.setCell ?_ ?_ _) | (with_reducible refine below_two ?_ (by with_reducible assumption)) | go_size))⟩
  case round =>
    clear hmk
    obtain ⟨k, cs, hk, rfl, hB, HC, hw⟩ := hrel
    by_cases hlt : k < 257
    · have k0 : (0 : Int) ≤ (k : Int) := by omega
      have k1 : (k : Int) < 257 := by omega
      have hsz := HC.out.1
      obtain ⟨u, hu⟩ : ∃ u, cs[k * 2]? = some u := ⟨_, Array.getElem?_eq_getElem (by omega)⟩
      obtain ⟨u', hu'⟩ : ∃ u, cs[k * 2 + 1]? = some u := ⟨_, Array.getElem?_eq_getElem (by omega)⟩
      have c0 : wr.cell? ⟨w.heap.size, k * 2, none⟩ = some u := (hB.cell _).trans hu
      have c1 : wr.cell? ⟨w.heap.size, k * 2 + 1, none⟩ = some u' := (hB.cell _).trans hu'
      have f0 : wr.frozen? ⟨w.heap.size, k * 2, none⟩ = false := hB.frozen _
      have f1 : wr.frozen? ⟨w.heap.size, k * 2 + 1, none⟩ = false := hB.frozen _
      have HN := Lib.hid (HC.out.next hlt)
      have HB2 := Lib.hid ((hB.set_ (k * 2) (.int .i64 (k : Int))).set_ (k * 2 + 1) (.int .i64 (1 + (k : Int) / 50)))
      clear hu hu' hsz hB
      go_wp2
      go_roundw
      case rel => exact ⟨k + 1, _, by omega, by go_num, HB2.out, HN, (hw.setCell (Nat.le_refl _) _).setCell (Nat.le_refl _) _⟩
      case measure => simp [intOf]; omega
    · have hk257 : k = 257 := by omega
      subst hk257
      have hR := BigAt.row hB HC.out
      clear hB HC
      go_wp2_with (first | (go_at_call 12; (with_reducible refine (check_big (some ⟨w.heap.size, 0, none⟩) 257 257 (by omega) (by omega) _).mono ?_); rintro e w3 ⟨rfl, hb3⟩; replace hw := hw.trans (hb3.mono hw.size); replace hR := hR.below hb3; clear hb3) | (go_at_call 12; (with_reducible refine (check_any ((bigL 257).take 256) (some ⟨w.heap.size, 0, none⟩) 256 257 _ l256 (by omega) (WRow.take hR 256) 0 e256.out).mono ?_); rintro e w3 ⟨rfl, hb3⟩; replace hw := hw.trans (hb3.mono hw.size); replace hR := hR.below hb3; clear hb3) | (go_at_call 3; (with_reducible refine (rows_any ((bigL 257).take 256) 256 257 (some ⟨w.heap.size, 0, none⟩) 0 9 l256.out (by omega) _ (WRow.take hR 256)).mono ?_); rintro e w3 ⟨rfl, hb3⟩; replace hw := hw.trans (hb3.mono hw.size); replace hR := hR.below hb3; clear hb3) | (go_at_call 3; (with_reducible refine (rows_any ((bigL 257).take 255) 255 257 (some ⟨w.heap.size, 0, none⟩) 0 9 l255.out (by omega) _ (WRow.take hR 255)).mono ?_); rintro e w3 ⟨rfl, hb3⟩; replace hw := hw.trans (hb3.mono hw.size); replace hR := hR.below hb3; clear hb3) | (go_at_call 4; (with_reducible refine (sready_any (bigL 257) 257 257 (some ⟨w.heap.size, 0, none⟩) 3 l257.out (by omega) _ hR).mono ?_); rintro e w3 ⟨rfl, hb3⟩; replace hw := hw.trans (hb3.mono hw.size); replace hR := hR.below hb3; clear hb3))
      go_loopw [3] (fun j wr => ∃ i : Int, -1 ≤ i ∧ i ≤ 8 ∧ j = .int .i64 i ∧ WRow wr (some ⟨w.heap.size, 0, none⟩) (bigL 257) ∧ Below w.heap.size w wr) (fun j _ => (8 - intOf j).toNat)
      case atStart => exact ⟨-1, by omega, by omega, rfl, hR, hw⟩
      case round =>
        clear hR hw
        obtain ⟨i, hi0, hi1, rfl, hR, hw⟩ := hrel
        by_cases hlt2 : i < 8
        · go_wp2_with (first | (go_at_call 4; (with_reducible refine (sready_any ((bigL 257).take 256) 256 257 (some ⟨w.heap.size, 0, none⟩) i l256.out (by omega) _ (WRow.take hR 256)).mono ?_); rintro e w3 ⟨rfl, hb3⟩; replace hw := hw.trans (hb3.mono hw.size); replace hR := hR.below hb3; clear hb3) | (go_at_call 5; (with_reducible refine (cut_any ((bigL 257).take 256) 256 257 (some ⟨w.heap.size, 0, none⟩) i l256.out (by omega) _ (WRow.take hR 256)).mono ?_); rintro e w3 ⟨rfl, hb3⟩; replace hw := hw.trans (hb3.mono hw.size); replace hR := hR.below hb3; clear hb3) | (go_at_call 6; (with_reducible refine (twice_any ((bigL 257).take 256) 256 257 (some ⟨w.heap.size, 0, none⟩) i 3 l256.out (by omega) _ (WRow.take hR 256)).mono ?_); rintro e w3 ⟨rfl, hb3⟩; replace hw := hw.trans (hb3.mono hw.size); replace hR := hR.below hb3; clear hb3))
          go_roundw
          case rel => exact ⟨i + 1, by omega, by omega, rfl, hR, hw⟩
          case measure => simp [intOf]; omega
        · have hG : WRow (wr.alloc (.cells #[.int .i64 0, .int .i64 0, .int .i64 0, .int .i64 (-1), .int .i64 (-1), .int .i64 1, .int .i64 9007199254740992, .int .i64 1, .int .i64 1, .int .i64 9007199254740992, .int .i64 9007199254740991, .int .i64 9007199254740991] 24)) (some ⟨wr.heap.size, 0, none⟩) [⟨0, 0⟩, ⟨0, -1⟩, ⟨-1, 1⟩, ⟨9007199254740992, 1⟩, ⟨1, 9007199254740992⟩, ⟨9007199254740991, 9007199254740991⟩] := Row.of_blk (Blk.new wr 24 #[.int .i64 0, .int .i64 0, .int .i64 0, .int .i64 (-1), .int .i64 (-1), .int .i64 1, .int .i64 9007199254740992, .int .i64 1, .int .i64 1, .int .i64 9007199254740992, .int .i64 9007199254740991, .int .i64 9007199254740991]) rfl
          have hw2 := hw.alloc hw.size (.cells #[.int .i64 0, .int .i64 0, .int .i64 0, .int .i64 (-1), .int .i64 (-1), .int .i64 1, .int .i64 9007199254740992, .int .i64 1, .int .i64 1, .int .i64 9007199254740992, .int .i64 9007199254740991, .int .i64 9007199254740991] 24)
          have HL : Hid (List.length ([⟨0, 0⟩, ⟨0, -1⟩, ⟨-1, 1⟩, ⟨9007199254740992, 1⟩, ⟨1, 9007199254740992⟩, ⟨9007199254740991, 9007199254740991⟩] : List Wt) = 6) := Lib.hid rfl
          obtain ⟨bl, hbl⟩ : ∃ bl : List Wt, bl = [⟨0, 0⟩, ⟨0, -1⟩, ⟨-1, 1⟩, ⟨9007199254740992, 1⟩, ⟨1, 9007199254740992⟩, ⟨9007199254740991, 9007199254740991⟩] := ⟨_, rfl⟩
          rw [← hbl] at hG HL
          clear hbl
          go_wp2
          go_loopw [5] (fun j w2 => ∃ k : Nat, k ≤ 6 ∧ j = .int .i64 k ∧ WRow w2 (some ⟨wr.heap.size, 0, none⟩) bl ∧ Below w.heap.size w w2) (fun j _ => 6 - (intOf j).toNat)
          case atStart => exact ⟨0, by omega, rfl, hG, hw2⟩
          case round =>
            clear hG hw2 hR hw
            obtain ⟨k, hk, rfl, hR, hw⟩ := hrel
            by_cases hlt3 : k < 6
            · have hkl : k < bl.length := by rw [HL.out]; exact hlt3
              obtain ⟨b, o, he, hbb, hbc⟩ := hR (by rw [rowV_len, HL.out]; omega)
              injection he with he
              injection he with he1 he2
              subst he1 he2
              obtain ⟨d0, d1⟩ := wrow_cells hbc hkl
              rw [Nat.zero_add] at d0 d1
              obtain ⟨xi, hxi⟩ : ∃ x, bl[k].id = x := ⟨_, rfl⟩
              obtain ⟨xa, hxa⟩ : ∃ x, bl[k].at_ = x := ⟨_, rfl⟩
              rw [hxi] at d0
              rw [hxa] at d1
              have k0 : (0 : Int) ≤ (k : Int) := by omega
              have k1 : (k : Int) < 6 := by omega
              clear hbc hxi hxa hkl
              go_wp2_with (first | (go_at_call 3; (with_reducible refine (rows_any [⟨1, 1⟩] 1 1 _ xi xa rfl (by omega) _ (Row.of_blk (Blk.new _ 24 #[.int .i64 1, .int .i64 1]) rfl)).mono ?_); rintro e w3 ⟨rfl, hb3⟩; replace hw := (hw.alloc hw.size _).trans (hb3.mono (Nat.le_trans hw.size (by simp))); have d0 := cell_below hb3 (cell_alloc d0); have d1 := cell_below hb3 (cell_alloc d1); replace hR := ((hR.alloc _).below hb3); clear hb3) | (go_at_call 3; (with_reducible refine (rows_any [⟨xi, xa⟩] 1 1 _ 2 2 rfl (by omega) _ (Row.of_blk (Blk.new _ 24 #[.int .i64 xi, .int .i64 xa]) rfl)).mono ?_); rintro e w3 ⟨rfl, hb3⟩; replace hw := (hw.alloc hw.size _).trans (hb3.mono (Nat.le_trans hw.size (by simp))); have d0 := cell_below hb3 (cell_alloc d0); have d1 := cell_below hb3 (cell_alloc d1); replace hR := ((hR.alloc _).below hb3); clear hb3) | (go_at_call 4; (with_reducible refine (sready_any [⟨xi, xa⟩] 1 1 _ 1 rfl (by omega) _ (Row.of_blk (Blk.new _ 24 #[.int .i64 xi, .int .i64 xa]) rfl)).mono ?_); rintro e w3 ⟨rfl, hb3⟩; replace hw := (hw.alloc hw.size _).trans (hb3.mono (Nat.le_trans hw.size (by simp))); have d0 := cell_below hb3 (cell_alloc d0); have d1 := cell_below hb3 (cell_alloc d1); replace hR := ((hR.alloc _).below hb3); clear hb3))
              go_roundw
              case rel => exact ⟨k + 1, by omega, by go_num, hR, hw⟩
              case measure => simp [intOf]; omega
            · go_wp2_with (first | (go_at_call 17; (with_reducible refine (works_any _).mono ?_); rintro e w3 ⟨rfl, hb3⟩; replace hw := hw.trans (hb3.mono hw.size); clear hb3) | (go_at_call 3; (with_reducible refine (rows_any [] 0 0 none 0 1 rfl (by omega) _ (Row.nil _ _)).mono ?_); rintro e w3 ⟨rfl, hb3⟩; replace hw := hw.trans (hb3.mono hw.size); clear hb3) | (go_at_call 4; (with_reducible refine (sready_any [] 0 0 none 0 rfl (by omega) _ (Row.nil _ _)).mono ?_); rintro e w3 ⟨rfl, hb3⟩; replace hw := hw.trans (hb3.mono hw.size); clear hb3) | (go_at_call 4; (with_reducible refine (sready_any [⟨0, 2⟩, ⟨0, 1⟩] 2 2 _ 2 rfl (by omega) _ (Row.of_blk (Blk.new _ 24 #[.int .i64 0, .int .i64 2, .int .i64 0, .int .i64 1]) rfl)).mono ?_); rintro e w3 ⟨rfl, hb3⟩; replace hw := (hw.alloc hw.size _).trans (hb3.mono (Nat.le_trans hw.size (by simp))); clear hb3))
              go_ret
              exact ⟨rfl, hw⟩

end Go.Proofs.Ythfnnlcfakkabaa
