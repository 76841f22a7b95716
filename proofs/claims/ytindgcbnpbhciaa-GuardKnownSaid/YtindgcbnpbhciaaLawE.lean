/-
  The walk of the closed law GuardKnown.
-/
import Derived.Test.YtindgcbnpbhciaaLawC
import Derived.Test.YtindgcbnpbhciaaLawD
import Derived.Laws.OwnMore
import Derived.Lib.SlBytesConst
import Derived.WalkKit
import Derived.Deep.DeepMust
import Derived.WalkSpells
import Derived.WalkLawsBesides
import Derived.Handy
import Derived.Lib.Hide
import Derived.Deep.QuietTactic
import Derived.BigQuiet
namespace Go.Proofs.Ytindgcbnpbhciaa
open Go.RowKit

theorem RowM.of_made {w : World} {base g n c : Nat} {e : TypeId} {l : List Int} (h : w.ownsRow base e 1 (.slice (some ⟨g, 0, none⟩) n c) n (bV l)) : RowM w g l := by
  rcases h.2 with ⟨h1, -⟩ | ⟨g2, cap, cur, h1, -, h2, -, -, -, h3⟩
  · cases h1
  · cases h1
    have hB : Blk w g e cur := h2
    refine ⟨hB.lt, fun k x hx => ?_, fun o => hB.frozen o⟩
    rw [hB.cell, ← Array.getElem?_toList]
    have h4 : (cur.toList.take (n * 1))[k]? = some (.int .u8 x) := by rw [h3]; unfold bV; rw [List.getElem?_map, hx]; rfl
    have hk : k < n * 1 := by
      rcases Nat.lt_or_ge k (n * 1) with h | h
      · exact h
      · rw [List.getElem?_eq_none (by rw [List.length_take]; omega)] at h4; cases h4
    rwa [List.getElem?_take_of_lt hk] at h4

theorem kn_size {w : World} {g : Nat} (h : Blk w g 3 #[.int .i64 (-1), .int .i64 0, .int .i64 1, .int .i64 2, .int .i64 8, .int .i64 1023, .int .i64 1024, .int .i64 1025, .int .i64 9223372036854775807]) {i : Nat} (hi : i < 9) : ∃ z, w.cell? ⟨g, i, none⟩ = some (.int .i64 z) := by
  rw [h.cell]
  match i, hi with
  | 0, _ => exact ⟨_, rfl⟩
  | 1, _ => exact ⟨_, rfl⟩
  | 2, _ => exact ⟨_, rfl⟩
  | 3, _ => exact ⟨_, rfl⟩
  | 4, _ => exact ⟨_, rfl⟩
  | 5, _ => exact ⟨_, rfl⟩
  | 6, _ => exact ⟨_, rfl⟩
  | 7, _ => exact ⟨_, rfl⟩
  | 8, _ => exact ⟨_, rfl⟩
theorem kn_many {w : World} {g : Nat} (h : Blk w g 3 #[.int .i64 0, .int .i64 1, .int .i64 16, .int .i64 17, .int .i64 18, .int .i64 1040, .int .i64 1041]) {i : Nat} (hi : i < 7) : ∃ m : Nat, m ≤ 1041 ∧ w.cell? ⟨g, i, none⟩ = some (.int .i64 (m : Int)) := by
  rw [h.cell]
  match i, hi with
  | 0, _ => exact ⟨0, by omega, rfl⟩
  | 1, _ => exact ⟨1, by omega, rfl⟩
  | 2, _ => exact ⟨16, by omega, rfl⟩
  | 3, _ => exact ⟨17, by omega, rfl⟩
  | 4, _ => exact ⟨18, by omega, rfl⟩
  | 5, _ => exact ⟨1040, by omega, rfl⟩
  | 6, _ => exact ⟨1041, by omega, rfl⟩

theorem Row.of_mark (w : World) (cs : Array Value) (t : TypeId) (fr : Nat × Nat) {xs : List Value} (e : cs.toList = xs) : Row (w.alloc (.cells cs t fr)) (some ⟨w.heap.size, 0, none⟩) xs := fun _ =>
  ⟨w.heap.size, 0, rfl, by simp, fun j u hu => by rw [Nat.zero_add, World.cell?_alloc_mark w cs t fr j, ← Array.getElem?_toList, e]; exact hu⟩

set_option maxRecDepth 100000 in
set_option maxHeartbeats 8000000 in
theorem known_any (W : World) : Calls Try.prog 8 #[] W fun e w' => e = .returned (.bool true) ∧ Below W.heap.size W w' := by
  obtain ⟨ti0, hi0, hz0, hz1, hz2⟩ := info_parts Try.infoB
  have J0 := Lib.hid hi0
  have J1 := Lib.hid hz0
  have J2 := Lib.hid hz1
  have J3 := Lib.hid hz2
  clear hi0 hz0 hz1 hz2
  go_enter Try.func8, Try.ntmps8
  have kc := fun (w : World) (C : Array Value) (n c : Nat) => Lib.run_convert_bytes_const (P := Try.prog) w 22 5 C n c Try.underlying22 Try.underlying5
  go_wp2
  go_loopw [2] (fun q wr => ∃ i : Nat, i ≤ 9 ∧ q = .int .i64 i ∧ Blk wr W.heap.size 3 #[.int .i64 (-1), .int .i64 0, .int .i64 1, .int .i64 2, .int .i64 8, .int .i64 1023, .int .i64 1024, .int .i64 1025, .int .i64 9223372036854775807] ∧ Below W.heap.size W wr) (fun q _ => 9 - (intOf q).toNat)
  case atStart => exact ⟨0, by omega, rfl, Blk.new W 3 _, by (repeat' (first | (with_reducible exact Below.refl _ _) | (with_reducible assumption) | (with_reducible refine Below.alloc ?_ ?_ _) | (with_reducible refine below_drewN ?_ _) | (with_reducible refine Below.drew ?_) | (with_reducible refine Below.setCell ?_ ?_ _) | (with_reducible refine below_two ?_ (by with_reducible assumption)) | go_size))⟩
  case round =>
    obtain ⟨i, hi, rfl, hS, hB⟩ := hrel
    have i0 : (0 : Int) ≤ (i : Int) := by omega
    by_cases hlt : i < 9
    · have i1 : (i : Int) < 9 := by omega
      obtain ⟨z, cz⟩ := kn_size hS hlt
      go_wp2_with (first | (go_at_call 3; (with_reducible refine (lays_any z _).mono ?_); rintro e w3 ⟨rfl, hb3⟩; have hS3 := hS.below hb3; have hB3 := hB.trans (hb3.mono hB.size); clear hb3))
      go_roundw
      case rel => exact ⟨i + 1, by omega, by go_num, hS3, hB3⟩
      case measure => simp [intOf]; omega
    · have i1 : ¬ (i : Int) < 9 := by omega
      clear hS hi hlt
      have hzr := hB.size
      obtain ⟨wo, hwo⟩ : ∃ x : World, x = wr := ⟨_, rfl⟩
      subst hwo
      go_wp2
      have hM0' := Blk.new wo 3 #[.int .i64 0, .int .i64 1, .int .i64 16, .int .i64 17, .int .i64 18, .int .i64 1040, .int .i64 1041]
      have hB' := hB.alloc hzr (.cells #[.int .i64 0, .int .i64 1, .int .i64 16, .int .i64 17, .int .i64 18, .int .i64 1040, .int .i64 1041] 3)
      clear hB
      obtain ⟨w0, hw0⟩ : ∃ x : World, x = wo.alloc (.cells #[.int .i64 0, .int .i64 1, .int .i64 16, .int .i64 17, .int .i64 18, .int .i64 1040, .int .i64 1041] 3) := ⟨_, rfl⟩
      rw [← hw0] at hM0' hB' ⊢
      clear hw0
      obtain ⟨m0, hm0⟩ : ∃ x, wo.heap.size = x := ⟨_, rfl⟩
      rw [hm0] at hM0' hzr ⊢
      clear hm0
      go_loopw [4, 5, 6] (fun q _ _ w2 => ∃ j : Nat, j ≤ 7 ∧ q = .int .i64 j ∧ Blk w2 m0 3 #[.int .i64 0, .int .i64 1, .int .i64 16, .int .i64 17, .int .i64 18, .int .i64 1040, .int .i64 1041] ∧ Below W.heap.size W w2) (fun q _ _ _ => 7 - (intOf q).toNat)
      case atStart => exact ⟨0, by omega, rfl, hM0', hB'⟩
      case round =>
        clear hM0' hB'
        obtain ⟨j, hj, rfl, hM0, hB⟩ := hrel
        have j0 : (0 : Int) ≤ (j : Int) := by omega
        by_cases hjl : j < 7
        · have j1 : (j : Int) < 7 := by omega
          obtain ⟨m, hm, cm⟩ := kn_many hM0 hjl
          have hz2 := hB.size
          obtain ⟨w1, hmk, hown, hgr⟩ := run_make_full (P := Try.prog) wr wr.heap.size 22 5 ti0 (.int .u8 0) 1 Try.underlying22 J0.out J1.out J2.out .i64 .i64 m (by rw [J3.out]; omega) (by unfold maxLen; omega) (Nat.le_refl _)
          have hb1 : Below wr.heap.size wr w1 := below_grown (Below.refl _ _) hgr (Nat.le_refl _) (fun g hg => by cases hg)
          have hM : RowM w1 wr.heap.size (List.replicate m 0) := by
            have e : (madeCells (Value.int .u8 0).cells (m * 1)).toList = bV (List.replicate m 0) := by
              rw [Nat.mul_one]
              unfold bV
              rw [List.map_replicate]
              exact toList_madeCells_one _ _
            rw [e] at hown
            exact RowM.of_made hown
          have hgm : m0 ≠ wr.heap.size := by have := hM0.lt; omega
          have hM0 := hM0.below hb1
          have hB := hB.trans (hb1.mono hz2)
          obtain ⟨g, hg⟩ : ∃ g, wr.heap.size = g := ⟨_, rfl⟩
          rw [hg] at hmk hM hgm hz2
          have hl : Hid ((List.replicate m (0 : Int)).length = m) := Lib.hid (List.length_replicate ..)
          have hby : Hid (By (List.replicate m 0)) := Lib.hid (fun x hx => by rw [(List.mem_replicate.1 hx).2]; omega)
          obtain ⟨l, hll⟩ : ∃ l, List.replicate m (0 : Int) = l := ⟨_, rfl⟩
          rw [hll] at hM hl hby
          clear hll hown hgr hb1 hg
          go_wp2_with (first | (go_at_call 5; (with_reducible refine (turns_any l m hl hby (some ⟨g, 0, none⟩) m (Nat.le_refl _) (by omega) false _ hM.row).mono ?_); rintro e w3 ⟨rfl, hb3⟩; replace hM := hM.below hb3; replace hM0 := hM0.below hb3; replace hB := hB.trans (hb3.mono hB.size); clear hb3) | (go_at_call 5; (with_reducible refine (turns_any l m hl hby (some ⟨g, 0, none⟩) m (Nat.le_refl _) (by omega) true _ hM.row).mono ?_); rintro e w3 ⟨rfl, hb3⟩; replace hM := hM.below hb3; replace hM0 := hM0.below hb3; replace hB := hB.trans (hb3.mono hB.size); clear hb3) | (go_at_call 4; (with_reducible refine (apart_any l m hl (some ⟨g, 0, none⟩) m (Nat.le_refl _) (by omega) _ hM.row).mono ?_); rintro e w3 ⟨rfl, hb3⟩; replace hM := hM.below hb3; replace hM0 := hM0.below hb3; replace hB := hB.trans (hb3.mono hB.size); clear hb3))
          go_loopw [6] (fun q w2 => ∃ (k : Nat) (l : List Int), k ≤ m ∧ q = .int .i64 k ∧ Hid (l.length = m) ∧ Hid (By l) ∧ RowM w2 g l ∧ Blk w2 m0 3 #[.int .i64 0, .int .i64 1, .int .i64 16, .int .i64 17, .int .i64 18, .int .i64 1040, .int .i64 1041] ∧ Below W.heap.size W w2) (fun q _ => m - (intOf q).toNat)
          case atStart => exact ⟨0, l, by omega, rfl, hl, hby, hM, hM0, hB⟩
          case round =>
            clear hM hM0 hB hl hby hmk
            obtain ⟨k, l, hk, rfl, hl, hby, hM, hM0, hB⟩ := hrel
            have k0 : (0 : Int) ≤ (k : Int) := by omega
            by_cases hkm : k < m
            · have k1 : (k : Int) < (m : Int) := by omega
              have hkl : k < l.length := by rw [hl.out]; exact hkm
              have c0 := hM.cell k _ (List.getElem?_eq_getElem hkl)
              obtain ⟨x, hx⟩ : ∃ x, l[k] = x := ⟨_, rfl⟩
              rw [hx] at c0
              have f0 := hM.frz k
              have HM := Lib.hid (hM.set hkl 204)
              have HM0 := Lib.hid (hM0.far (p := ⟨g, k, none⟩) hgm (.int .u8 204))
              have HB := Lib.hid (hB.setCell (p := ⟨g, k, none⟩) hz2 (.int .u8 204))
              have hby2 : Hid (By (l.set k 204)) := Lib.hid (fun x hx => by
                rcases List.mem_or_eq_of_mem_set hx with h | h
                · exact hby.out x h
                · rw [h]; omega)
              clear hM hM0 hB hx hkl
              go_wp2
              go_roundw
              case rel => exact ⟨k + 1, l.set k 204, by omega, by go_num, Lib.hid (by rw [List.length_set]; exact hl.out), hby2, HM.out, HM0.out, HB.out⟩
              case measure => simp [intOf]; omega
            · have k1 : ¬ (k : Int) < (m : Int) := by omega
              go_wp2_with (first | (go_at_call 5; (with_reducible refine (turns_any l m hl hby (some ⟨g, 0, none⟩) m (Nat.le_refl _) (by omega) false _ hM.row).mono ?_); rintro e w3 ⟨rfl, hb3⟩; replace hM := hM.below hb3; replace hM0 := hM0.below hb3; replace hB := hB.trans (hb3.mono hB.size); clear hb3) | (go_at_call 5; (with_reducible refine (turns_any l m hl hby (some ⟨g, 0, none⟩) m (Nat.le_refl _) (by omega) true _ hM.row).mono ?_); rintro e w3 ⟨rfl, hb3⟩; replace hM := hM.below hb3; replace hM0 := hM0.below hb3; replace hB := hB.trans (hb3.mono hB.size); clear hb3) | (go_at_call 4; (with_reducible refine (apart_any l m hl (some ⟨g, 0, none⟩) m (Nat.le_refl _) (by omega) _ hM.row).mono ?_); rintro e w3 ⟨rfl, hb3⟩; replace hM := hM.below hb3; replace hM0 := hM0.below hb3; replace hB := hB.trans (hb3.mono hB.size); clear hb3))
              go_roundw
              case rel => exact ⟨j + 1, by omega, by go_num, hM0, hB⟩
              case measure => simp [intOf]; omega
        · have j1 : ¬ (j : Int) < 7 := by omega
          clear hM0 hzr
          go_wp2
          go_loopw [7] (fun q w2 => ∃ at_ : Nat, at_ ≤ 20 ∧ q = .int .i64 at_ ∧ Below W.heap.size W w2) (fun q _ => 20 - (intOf q).toNat)
          case atStart => exact ⟨0, by omega, rfl, hB⟩
          case round =>
            clear hB
            obtain ⟨at_, ha, rfl, hB⟩ := hrel
            by_cases hat : at_ < 20
            · have a1 : (at_ : Int) < 20 := by omega
              go_wp2_with (first | (go_at_call 7; (with_reducible refine (told_any 3 (at_ : Int) 1 (by omega) _).mono ?_); rintro e w3 ⟨rfl, hb3⟩; replace hB := hB.trans (hb3.mono hB.size); clear hb3) | (go_at_call 7; (with_reducible refine (told_any 3 (at_ : Int) 255 (by omega) _).mono ?_); rintro e w3 ⟨rfl, hb3⟩; replace hB := hB.trans (hb3.mono hB.size); clear hb3) | (go_at_call 7; (with_reducible refine (told_any 0 (at_ : Int) 7 (by omega) _).mono ?_); rintro e w3 ⟨rfl, hb3⟩; replace hB := hB.trans (hb3.mono hB.size); clear hb3))
              go_roundw
              case rel => exact ⟨at_ + 1, by omega, by go_num, hB⟩
              case measure => simp [intOf]; omega
            · have a1 : ¬ (at_ : Int) < 20 := by omega
              go_wp2_with (first | (go_at_call 12; (with_reducible refine (works_any _).mono ?_); rintro e w3 ⟨rfl, hb3⟩; replace hB := hB.trans (hb3.mono hB.size); clear hb3; have hR := Row.of_mark w3 #[.int .u8 97, .int .u8 98, .int .u8 99, .int .u8 100, .int .u8 101, .int .u8 102, .int .u8 103] 5 (7, 8) (xs := bV [97, 98, 99, 100, 101, 102, 103]) rfl; replace hB := hB.alloc hB.size (.cells #[.int .u8 97, .int .u8 98, .int .u8 99, .int .u8 100, .int .u8 101, .int .u8 102, .int .u8 103] 5 (7, 8)); have hl7 : Hid (([97, 98, 99, 100, 101, 102, 103] : List Int).length = 7) := Lib.hid rfl) | (go_at_call 6; (with_reducible refine (round_any 4 [97, 98, 99, 100, 101, 102, 103] 7 hl7 _ 7 (by omega) 2 _ hR).mono ?_); rintro e w4 ⟨rfl, hb4⟩; replace hB := hB.trans (hb4.mono hB.size); clear hb4))
              go_ret
              exact ⟨rfl, hB⟩

end Go.Proofs.Ytindgcbnpbhciaa
