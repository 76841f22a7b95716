/-
  GracePlays.
-/
import Derived.Test.YtodaknidbdicdaaSame
import Derived.Test.YtodaknidbdicdaaWorks
import Derived.Test.YtodaknidbdicdaaRecs
import Derived.WalkKit
import Derived.Deep.DeepMust
import Derived.WalkSpells
import Derived.WalkLawsBesides
import Derived.Handy
import Derived.Lib.Hide
import Derived.Deep.QuietTactic
import Derived.BigQuiet
namespace Go.Proofs.Ytodaknidbdicdaa
open Go.RowKit

def doK : List IntKind := [.i64, .i64, .i64]

/-- The three numbers of a record, behind what the call has done. -/
theorem Recs.three {w wr : World} {A : Option Addr} {L : Nat} {F : Nat → Nat → Int} (h : Recs w A L 3 doK F) (hB : Below w.heap.size w wr) {k : Nat} (hk : k < L) :
    ∃ b off, A = some ⟨b, off, none⟩ ∧ ∃ K X I : Int, wr.cell? ⟨b, off + k * 3, none⟩ = some (.int .i64 K) ∧ wr.cell? ⟨b, off + k * 3 + 1, none⟩ = some (.int .i64 X) ∧ wr.cell? ⟨b, off + k * 3 + 2, none⟩ = some (.int .i64 I) := by
  obtain ⟨b0, off, rfl, hbl, hcell⟩ := h (by omega)
  have f : ∀ j, j < 3 → wr.cell? ⟨b0, off + k * 3 + j, none⟩ = some (.int .i64 (F k j)) := fun j hj => by
    obtain ⟨h1, h2⟩ := hcell k hk j hj
    rw [hB.cell (p := ⟨b0, off + k * 3 + j, none⟩) hbl, h1]
    match j, hj with
    | 0, _ | 1, _ | 2, _ => rfl
  exact ⟨b0, off, rfl, _, _, _, f 0 (by omega), f 1 (by omega), f 2 (by omega)⟩

section
variable {B r da ra na b : Nat} {gs : List Nat} {G : Gr}
theorem step_any (W w : World) (h : Both W w b B r da ra na gs G) (hE : G.E ≤ 1000000) (K X I : Int) :
    Calls Try.prog 11 #[.pointer (some ⟨b, 0, none⟩), .pointer (some ⟨r, 0, none⟩), .agg #[.int .i64 K, .int .i64 X, .int .i64 I]] w (StepPost W b B r da ra na gs G) := by
  rcases (by omega : K % 5 = 0 ∨ K % 5 = 1 ∨ K % 5 = 2 ∨ K % 5 = 3 ∨ K % 5 = 4) with hK | hK | hK | hK | hK
  · exact step_lock W w h hE K X I (Lib.hid hK)
  · exact step_unlock W w h hE K X I (Lib.hid hK)
  · exact step_quiet W w h hE K X I (Lib.hid hK)
  · exact step_call W w h hE K X I (Lib.hid hK)
  · exact step_poll W w h hE K X I (Lib.hid hK)
end

set_option maxRecDepth 100000 in
set_option maxHeartbeats 2000000 in
theorem plays_bad (x : Int) (hx : ¬ (1 ≤ x ∧ x ≤ 8)) (L : Nat) (A : Option Addr) (c : Nat) (w : World) :
    Calls Try.prog 4 #[.int .i64 x, .slice A L c] w fun e w' => e = .returned (.bool true) ∧ Below w.heap.size w w' := by
  go_enter Try.func4, Try.ntmps4
  go_wp2_with (first | (go_at_call 7; (with_reducible refine (new_no x hx _).mono ?_); rintro e wq ⟨rfl, hwq⟩; replace hwq := hwq.symm; subst hwq) | (go_at_call 10; (with_reducible refine (rnew_no x hx _).mono ?_); rintro e wq ⟨rfl, hwq⟩; replace hwq := hwq.symm; subst hwq))
  go_loopw [9] (fun j wr => j = .int .i64 0 ∧ wr = w) (fun _ _ => 0)
  case atStart => exact ⟨rfl, rfl⟩
  case round =>
    obtain ⟨rfl, rfl⟩ := hrel
    by_cases hL : 0 < L
    · have k1 : (0 : Int) < (L : Int) := by omega
      go_wp2_with (first | (go_at_call 6; (with_reducible refine (works_any _).mono ?_); rintro e w4 ⟨rfl, hb4⟩))
      go_ret
      exact ⟨rfl, hb4⟩
    · have k1 : ¬ (0 : Int) < (L : Int) := by omega
      go_wp2_with (first | (go_at_call 6; (with_reducible refine (works_any _).mono ?_); rintro e w4 ⟨rfl, hb4⟩))
      go_ret
      exact ⟨rfl, hb4⟩

set_option maxRecDepth 100000 in
set_option maxHeartbeats 4000000 in
theorem plays_ok (C L : Nat) (h1 : 1 ≤ C) (h2 : C ≤ 8) (F : Nat → Nat → Int) (A : Option Addr) (c : Nat) (hl : L ≤ 9223372036854775807) (w : World) (hA : Recs w A L 3 doK F) :
    Calls Try.prog 4 #[.int .i64 (C : Int), .slice A L c] w fun e w' => e = .returned (.bool true) ∧ Below w.heap.size w w' := by
  have HA := Lib.hid hA
  clear hA
  go_enter Try.func4, Try.ntmps4
  go_wp2_with (first | (go_at_call 7; (with_reducible refine (new_ok C h1 h2 _).mono ?_); rintro e w1 ⟨b, rfl, hb, hO, hB⟩) | (go_at_call 10; ((with_reducible refine (rnew_ok C h1 h2 _).mono ?_); rintro e w2 ⟨r, da, ra, na, rfl, hl4, hR, hB'⟩; have hb1 := hO.lt; have hz1 := hB.size; have hO' := hO.below hB'; replace hB := hB.trans (hB'.mono hB.size))))
  have hm4 : ∀ g ∈ [r, da, ra, na], g ∈ [b, r, da, ra, na] := fun g h => List.mem_cons_of_mem _ h
  have hlg : ∀ g ∈ [b, r, da, ra, na], g < w2.heap.size := fun g h => by
    rcases List.mem_cons.1 h with rfl | h
    · exact hO'.lt
    · exact hl4 g h
  have hR := hR _ hm4 hlg
  have hO := hO'.widen (fun _ => rfl) (List.mem_cons_self ..) hlg
  have hBoth : Both w w2 b w1.heap.size r da ra na [b, r, da, ra, na] (newG C) := ⟨hO, hR, Inv.new h1 h2, hB, hb, hz1⟩
  obtain ⟨B, hBe⟩ : ∃ B, B = w1.heap.size := ⟨_, rfl⟩
  obtain ⟨gs, hge⟩ : ∃ gs, gs = [b, r, da, ra, na] := ⟨_, rfl⟩
  rw [← hBe, ← hge] at hBoth
  clear hBe hge hR hO hO' hm4 hlg hl4 hB' hB hb hz1 hb1
  have HB := Lib.hid hBoth
  clear hBoth
  go_loopw [9] (fun j wr => ∃ (k : Nat) (G : Gr), k ≤ L ∧ k ≤ 300 ∧ j = .int .i64 k ∧ Hid (G.E ≤ k) ∧ Hid (Both w wr b B r da ra na gs G)) (fun j _ => 300 - (intOf j).toNat)
  case atStart => exact ⟨0, _, by omega, by omega, rfl, Lib.hid (Nat.le_refl _), HB⟩
  case round =>
    clear HB
    obtain ⟨k, G, hkL, hk300, rfl, hE, HB⟩ := hrel
    by_cases hlt : k < L ∧ k < 300
    · obtain ⟨hlt1, hlt2⟩ := hlt
      have k0 : (0 : Int) ≤ (k : Int) := by omega
      have k1 : (k : Int) < (L : Int) := by omega
      have k2 : (k : Int) < 300 := by omega
      obtain ⟨b0, off, rfl, K, X, I, d0, d1, d2⟩ := HA.out.three HB.out.low hlt1
      have hEb : Hid (G.E ≤ 1000000) := Lib.hid (by have := hE.out; omega)
      go_wp2_with (first | (go_at_call 11; ((with_reducible refine (step_any _ _ HB.out hEb.out K X I).mono ?_); rintro e w3 ⟨rfl, G1, hN, hB1⟩)) | (go_at_call 12; (with_reducible refine (same_any _ _ hB1).mono ?_); rintro e w4 ⟨rfl, hB2⟩))
      go_roundw
      case rel => exact ⟨k + 1, G1, by omega, by omega, by go_num, Lib.hid (by have := hN.2.1; have := hE.out; omega), Lib.hid hB2⟩
      case measure => simp [intOf]; omega
    · have k0 : (0 : Int) ≤ (k : Int) := by omega
      have hB := HB.out.low
      rcases (by omega : (¬ (k : Int) < (L : Int)) ∨ ((k : Int) < (L : Int) ∧ ¬ (k : Int) < 300)) with e1 | ⟨e1, e2⟩
      all_goals
        go_wp2_with (first | (go_at_call 6; (with_reducible refine (works_any _).mono ?_); rintro e w4 ⟨rfl, hb4⟩; replace hB := hB.trans (hb4.mono hB.size)))
        go_ret
        exact ⟨rfl, hB⟩

theorem plays_any (x : Int) (L : Nat) (F : Nat → Nat → Int) (A : Option Addr) (c : Nat) (hl : L ≤ maxLen) (w : World) (hA : Recs w A L 3 doK F) :
    Calls Try.prog 4 #[.int .i64 x, .slice A L c] w fun e w' => e = .returned (.bool true) ∧ Below w.heap.size w w' := by
  unfold maxLen at hl
  by_cases h : 1 ≤ x ∧ x ≤ 8
  · obtain ⟨C, rfl⟩ := Int.eq_ofNat_of_zero_le (show 0 ≤ x by omega)
    exact plays_ok C L (by omega) (by omega) F A c (by omega) w hA
  · exact plays_bad x h L A c w

end Go.Proofs.Ytodaknidbdicdaa
