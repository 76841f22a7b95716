/-
  OwnerPlays.
-/
import Derived.Test.YtehmegnmfpfopaaSame
import Derived.Test.YtehmegnmfpfopaaRecs
import Derived.Test.YtehmegnmfpfopaaBring
import Derived.Deep.RegionHeld3
import Derived.WalkKit
import Derived.Deep.DeepMust
import Derived.WalkSpells
import Derived.WalkLawsBesides
import Derived.Handy
import Derived.Lib.Hide
import Derived.Deep.QuietTactic
import Derived.BigQuiet
namespace Go.Proofs.Ytehmegnmfpfopaa
open Go.RowKit

def doK : List IntKind := [.i64, .i64, .i64, .i64, .i64]

theorem w64_of_wf {j : Nat} {x : Int} (h : (Lit.int (doK.getD j .i64) x).wf = true) (hj : j < 5) : w64 x := by
  have e : doK.getD j .i64 = .i64 := by
    match j, hj with
    | 0, _ | 1, _ | 2, _ | 3, _ | 4, _ => rfl
  rw [e] at h
  exact h

/-- The five numbers of a record, behind what the call has done. -/
theorem Recs.five {w wr : World} {A : Option Addr} {L : Nat} {F : Nat → Nat → Int} (h : Recs w A L 5 doK F) (hB : Below w.heap.size w wr) {k : Nat} (hk : k < L) :
    ∃ b off, A = some ⟨b, off, none⟩ ∧ ∃ K X I G T : Int, (K = F k 0 ∧ X = F k 1 ∧ I = F k 2 ∧ G = F k 3 ∧ T = F k 4) ∧ wr.cell? ⟨b, off + k * 5, none⟩ = some (.int .i64 K) ∧ wr.cell? ⟨b, off + k * 5 + 1, none⟩ = some (.int .i64 X) ∧ wr.cell? ⟨b, off + k * 5 + 2, none⟩ = some (.int .i64 I) ∧
      wr.cell? ⟨b, off + k * 5 + 3, none⟩ = some (.int .i64 G) ∧ wr.cell? ⟨b, off + k * 5 + 4, none⟩ = some (.int .i64 T) ∧ w64 X ∧ w64 I ∧ w64 G ∧ w64 T := by
  obtain ⟨b0, off, rfl, hbl, hcell⟩ := h (by omega)
  have f : ∀ j, j < 5 → wr.cell? ⟨b0, off + k * 5 + j, none⟩ = some (.int .i64 (F k j)) ∧ w64 (F k j) := fun j hj => by
    obtain ⟨h1, h2⟩ := hcell k hk j hj
    refine ⟨?_, w64_of_wf h2 hj⟩
    rw [hB.cell (p := ⟨b0, off + k * 5 + j, none⟩) hbl, h1]
    match j, hj with
    | 0, _ | 1, _ | 2, _ | 3, _ | 4, _ => rfl
  exact ⟨b0, off, rfl, _, _, _, _, _, ⟨rfl, rfl, rfl, rfl, rfl⟩, (f 0 (by omega)).1, (f 1 (by omega)).1, (f 2 (by omega)).1, (f 3 (by omega)).1, (f 4 (by omega)).1, (f 1 (by omega)).2, (f 2 (by omega)).2, (f 3 (by omega)).2, (f 4 (by omega)).2⟩

set_option maxRecDepth 100000 in
set_option maxHeartbeats 2000000 in
theorem plays_bad (x y : Int) (hx : ¬ (1 ≤ x ∧ x ≤ 256 ∧ 1 ≤ y ∧ y ≤ 16)) (L : Nat) (A : Option Addr) (c : Nat) (w : World) :
    Calls Try.prog 3 #[.int .i64 x, .int .i64 y, .slice A L c] w fun e w' => e = .returned (.bool true) ∧ Below w.heap.size w w' := by
  go_enter Try.func3, Try.ntmps3
  go_wp2_with (first | (go_at_call 7; (with_reducible refine (new_no x y hx _).mono ?_); rintro e wq ⟨rfl, hwq⟩; replace hwq := hwq.symm; subst hwq) | (go_at_call 8; (with_reducible refine (rnew_no x y hx _).mono ?_); rintro e wq ⟨rfl, hwq⟩; replace hwq := hwq.symm; subst hwq))
  go_loopw [11] (fun j wr => j = .int .i64 0 ∧ wr = w) (fun _ _ => 0)
  case atStart => exact ⟨rfl, rfl⟩
  case round =>
    obtain ⟨rfl, rfl⟩ := hrel
    by_cases hL : 0 < L
    · have k1 : (0 : Int) < (L : Int) := by omega
      go_wp2_with (first | (go_at_call 17; (with_reducible refine (works_any _).mono ?_); rintro e w4 ⟨rfl, hb4⟩))
      go_ret
      exact ⟨rfl, hb4⟩
    · have k1 : ¬ (0 : Int) < (L : Int) := by omega
      go_wp2_with (first | (go_at_call 17; (with_reducible refine (works_any _).mono ?_); rintro e w4 ⟨rfl, hb4⟩))
      go_ret
      exact ⟨rfl, hb4⟩

set_option maxRecDepth 100000 in
set_option maxHeartbeats 4000000 in
theorem plays_ok (S O L : Nat) (h1 : 1 ≤ S) (h2 : S ≤ 256) (h3 : 1 ≤ O) (h4 : O ≤ 16) (F : Nat → Nat → Int) (A : Option Addr) (c : Nat) (hl : L ≤ 9223372036854775807) (w : World) (hA : Recs w A L 5 doK F) :
    Calls Try.prog 3 #[.int .i64 (S : Int), .int .i64 (O : Int), .slice A L c] w fun e w' => e = .returned (.bool true) ∧ Below w.heap.size w w' := by
  have HA := Lib.hid hA
  clear hA
  go_enter Try.func3, Try.ntmps3
  go_wp2_with (first | (go_at_call 7; (with_reducible refine (new_ok S O h1 h2 h3 h4 _).mono ?_); rintro e w1 ⟨b, m, rfl, hb, hm, hO, hB⟩) | (go_at_call 8; (with_reducible refine (rnew_ok S O h1 h2 h3 h4 _).mono ?_); rintro e w2 ⟨r, rfl, ⟨ga, c', gs, hR⟩, hB'⟩; have hb1 := hO.blk.lt; have hm1 := hO.map.lt; have hz1 := hB.size; replace hO := hO.below hB'; replace hB := hB.trans (hB'.mono hB.size); clear hB'))
  obtain ⟨B, hBe⟩ : ∃ B, B = w1.heap.size := ⟨_, rfl⟩
  rw [← hBe] at hR hb1 hm1 hz1
  clear hBe
  have hgs := Lib.hid hR.base
  have hbg : b ∉ gs := fun h => by have := hgs.out b h; omega
  have hmg : m ∉ gs := fun h => by have := hgs.out m h; omega
  have hgl : ∀ g ∈ gs, w.heap.size ≤ g := fun g h => by have := hgs.out g h; omega
  go_loopw [11] (fun j wr => ∃ (k : Nat) (G : Int → Int → Int), k ≤ L ∧ k ≤ 100 ∧ j = .int .i64 k ∧ Hid (OwnAt wr b m S O k G) ∧ Hid (RefIn wr B r S O G ga c' gs) ∧ Below w.heap.size w wr) (fun j _ => 100 - (intOf j).toNat)
  case atStart => exact ⟨0, _, by omega, by omega, rfl, Lib.hid hO, Lib.hid hR, hB⟩
  case round =>
    clear hO hR hB
    obtain ⟨k, G, hkL, hk100, rfl, HO, HR, hB⟩ := hrel
    by_cases hlt : k < L ∧ k < 100
    · obtain ⟨hlt1, hlt2⟩ := hlt
      have k0 : (0 : Int) ≤ (k : Int) := by omega
      have k1 : (k : Int) < (L : Int) := by omega
      have k2 : (k : Int) < 100 := by omega
      obtain ⟨b0, off, rfl, K, X, I, Gr, T, -, d0, d1, d2, d3, d4, wX, wI, wG, wT⟩ := HA.out.five hB hlt1
      have wX := Lib.hid wX
      have wI := Lib.hid wI
      have wG := Lib.hid wG
      have wT := Lib.hid wT
      have hpm : wr.heap.size ≠ m := by have := HO.out.map.lt; omega
      have hpg : wr.heap.size ∉ gs := fun h => Nat.lt_irrefl _ (HR.out.lt _ h)
      have hX := Blk.new wr 31 #[.int .i64 K, .int .i64 X, .int .i64 I, .int .i64 Gr, .int .i64 T]
      have hB1 := hB.alloc hB.size (.cells #[.int .i64 K, .int .i64 X, .int .i64 I, .int .i64 Gr, .int .i64 T] 31)
      have hO := HO.out.below ((Below.refl _ _).alloc (Nat.le_refl _) (.cells #[.int .i64 K, .int .i64 X, .int .i64 I, .int .i64 Gr, .int .i64 T] 31))
      have hR := HR.out.below ((Below.refl _ _).alloc (Nat.le_refl _) (.cells #[.int .i64 K, .int .i64 X, .int .i64 I, .int .i64 Gr, .int .i64 T] 31))
      rcases (by omega : K % 3 = 0 ∨ K % 3 = 1 ∨ K % 3 = 2) with hK | hK | hK
      · have hK := Lib.hid hK
        go_wp2_with (first | (go_at_call 9; (with_reducible refine (bring_any K 3 (by omega) (by omega) _).mono ?_); rintro e w0 ⟨rfl, hw0⟩; replace hw0 := hw0.symm; subst hw0; rw [hK.out]))
        have hO := hO.below (Below.refl _ _).drew
        have hR := hR.below (Below.refl _ _).drew
        have hX := hX.below (Below.refl _ _).drew
        have hB1 := hB1.drew
        have x1 : World.cell? _ ⟨wr.heap.size, 1, none⟩ = some (.int .i64 X) := hX.cell 1
        have x2 : World.cell? _ ⟨wr.heap.size, 2, none⟩ = some (.int .i64 I) := hX.cell 2
        have x3 : World.cell? _ ⟨wr.heap.size, 3, none⟩ = some (.int .i64 Gr) := hX.cell 3
        go_region_held3 (fun w' => w'.cell? ⟨wr.heap.size, 1, none⟩ = some (.int .i64 X) ∧ w'.cell? ⟨wr.heap.size, 2, none⟩ = some (.int .i64 I) ∧ w'.cell? ⟨wr.heap.size, 3, none⟩ = some (.int .i64 Gr)) (exact ⟨by assumption, by assumption, by assumption⟩) (first | (go_at_call 10; (with_reducible refine (set_any _ b m S O k G hO (by omega) X I Gr wX.out wI.out wG.out).mono ?_); rintro e w3 ⟨rfl, hN, hT⟩; replace hB1 := hT.below hB1 hm hB1.size; replace hX := hX.one hT hpm; replace hR := hR.one hT hm1; clear hT hO; have hO := hN; clear hN; have y1 : w3.cell? ⟨wr.heap.size, 1, none⟩ = some (.int .i64 X) := hX.cell 1; have y2 : w3.cell? ⟨wr.heap.size, 2, none⟩ = some (.int .i64 I) := hX.cell 2; have y3 : w3.cell? ⟨wr.heap.size, 3, none⟩ = some (.int .i64 Gr) := hX.cell 3) | (go_at_call 11; (with_reducible refine (rset_any _ hR X I Gr).mono ?_); rintro e w4 ⟨rfl, hN, hT⟩; replace hB1 := hT.below hB1 hgl hB1.size; replace hX := hX.rws hT hpg; replace hO := hO.rws hT hbg hmg; clear hT hR; have hR := hN; clear hN; have y1 : w4.cell? ⟨wr.heap.size, 1, none⟩ = some (.int .i64 X) := hX.cell 1; have y2 : w4.cell? ⟨wr.heap.size, 2, none⟩ = some (.int .i64 I) := hX.cell 2; have y3 : w4.cell? ⟨wr.heap.size, 3, none⟩ = some (.int .i64 Gr) := hX.cell 3))
        all_goals go_wp2
        all_goals go_roundw
        all_goals (first | exact ⟨k + 1, _, by omega, by omega, by go_num, Lib.hid hO, Lib.hid hR, hB1⟩ | (simp [intOf]; omega))
      · have hK := Lib.hid hK
        go_wp2_with (first | (go_at_call 9; (with_reducible refine (bring_any K 3 (by omega) (by omega) _).mono ?_); rintro e w0 ⟨rfl, hw0⟩; replace hw0 := hw0.symm; subst hw0; rw [hK.out]) | (go_at_call 12; (with_reducible refine (clear_any _ b m S O k G hO X I wX.out wI.out).mono ?_); rintro e w3 ⟨rfl, hN, hT⟩; replace hB1 := hT.below hB1 hm hB1.size; replace hX := hX.one hT hpm; replace hR := hR.one hT hm1; clear hT hO; have hO := hN; clear hN; have y1 : w3.cell? ⟨wr.heap.size, 1, none⟩ = some (.int .i64 X) := hX.cell 1; have y2 : w3.cell? ⟨wr.heap.size, 2, none⟩ = some (.int .i64 I) := hX.cell 2) | (go_at_call 13; (with_reducible refine (rclear_any _ hR (fun x y h => (HO.out.in_ x y h).1) X I).mono ?_); rintro e w4 ⟨rfl, hN, hT⟩; replace hB1 := hT.below hB1 hgl hB1.size; replace hO := hO.rws hT hbg hmg; clear hT hR; have hR := hN; clear hN))
        go_roundw
        all_goals (first | exact ⟨k + 1, _, by omega, by omega, by go_num, Lib.hid (hO.mono (by omega)), Lib.hid hR, hB1⟩ | (simp [intOf]; omega))
      · have hK := Lib.hid hK
        go_wp2_with (first | (go_at_call 9; (with_reducible refine (bring_any K 3 (by omega) (by omega) _).mono ?_); rintro e w0 ⟨rfl, hw0⟩; replace hw0 := hw0.symm; subst hw0; rw [hK.out]) | (go_at_call 14; (with_reducible refine (move_any _ b m S O k G hO (by omega) Gr T).mono ?_); rintro e w3 ⟨rfl, hN, hT⟩; replace hB1 := hT.below hB1 hm hB1.size; replace hX := hX.one hT hpm; replace hR := hR.one hT hm1; clear hT hO; have hO := hN; clear hN; have y1 : w3.cell? ⟨wr.heap.size, 3, none⟩ = some (.int .i64 Gr) := hX.cell 3; have y2 : w3.cell? ⟨wr.heap.size, 4, none⟩ = some (.int .i64 T) := hX.cell 4) | (go_at_call 15; (with_reducible refine (rmove_any _ hR (fun x y h => (HO.out.in_ x y h).1) Gr T).mono ?_); rintro e w4 ⟨rfl, hN, hT⟩; replace hB1 := hT.below hB1 hgl hB1.size; replace hO := hO.rws hT hbg hmg; clear hT hR; have hR := hN; clear hN))
        go_roundw
        all_goals (first | exact ⟨k + 1, _, by omega, by omega, by go_num, Lib.hid (hO.mono (by omega)), Lib.hid hR, hB1⟩ | (simp [intOf]; omega))
    · have k0 : (0 : Int) ≤ (k : Int) := by omega
      rcases (by omega : (¬ (k : Int) < (L : Int)) ∨ ((k : Int) < (L : Int) ∧ ¬ (k : Int) < 100)) with e1 | ⟨e1, e2⟩
      all_goals
        go_wp2_with (first | (go_at_call 16; (with_reducible refine (same_any _ b m k HO.out HR.out).mono ?_); rintro e w3 ⟨rfl, hb3⟩; replace hB := hB.trans (hb3.mono hB.size)) | (go_at_call 17; (with_reducible refine (works_any _).mono ?_); rintro e w4 ⟨rfl, hb4⟩; replace hB := hB.trans (hb4.mono hB.size)))
        go_ret
        exact ⟨rfl, hB⟩

theorem plays_any (x y : Int) (L : Nat) (F : Nat → Nat → Int) (A : Option Addr) (c : Nat) (hl : L ≤ maxLen) (w : World) (hA : Recs w A L 5 doK F) :
    Calls Try.prog 3 #[.int .i64 x, .int .i64 y, .slice A L c] w fun e w' => e = .returned (.bool true) ∧ Below w.heap.size w w' := by
  unfold maxLen at hl
  by_cases h : 1 ≤ x ∧ x ≤ 256 ∧ 1 ≤ y ∧ y ≤ 16
  · obtain ⟨S, rfl⟩ := Int.eq_ofNat_of_zero_le (show 0 ≤ x by omega)
    obtain ⟨O, rfl⟩ := Int.eq_ofNat_of_zero_le (show 0 ≤ y by omega)
    exact plays_ok S O L (by omega) (by omega) (by omega) (by omega) F A c (by omega) w hA
  · exact plays_bad x y h L A c w

end Go.Proofs.Ytehmegnmfpfopaa
