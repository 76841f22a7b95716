/-
  The walks of Check, of both.
-/
import Derived.Test.YtodaknidbdicdaaSRowsW
import Derived.Test.YtodaknidbdicdaaRows
import Derived.WalkKit
import Derived.Deep.DeepMust
import Derived.WalkSpells
import Derived.WalkLawsBesides
import Derived.Handy
import Derived.Lib.Hide
import Derived.Deep.QuietTactic
import Derived.BigQuiet
namespace Go.Proofs.Ytodaknidbdicdaa
open Go.RowKit

set_option maxHeartbeats 2000000 in
theorem check_pos (l : List Wt) (b off c : Nat) (w : World) (n : Nat) (hn : Hid (l.length = n)) (hn' : n ≤ 256) (hb : b < w.heap.size) (hc : ∀ j u, (rowV l)[j]? = some u → w.cell? ⟨b, off + j, none⟩ = some u) :
    Calls Try.prog 50 #[.slice (some ⟨b, off, none⟩) n c] w fun e w' => e = .returned (.int .i64 (errC l)) ∧ Below w.heap.size w w' := by
  have HC := Lib.hid hc
  obtain ⟨R, hR⟩ : ∃ R, okF 1 l = R := ⟨_, rfl⟩
  have HE0 : Hid (R = true → errC l = 0) := Lib.hid (fun h => errC_ok (by rw [hn.out]; exact hn') (by rw [hR, h]))
  have HE2 : Hid (R = false → errC l = 2) := Lib.hid (fun h => errC_bad (by rw [hn.out]; exact hn') (by rw [hR, h]))
  have HR := Lib.hid hR
  clear hc hR
  go_enter Try.func50, Try.ntmps50
  go_wp2
  go_loopw [3, 11] (fun t j wr => ∃ (k : Nat) (last : Int), k ≤ n ∧ j = .int .i64 k ∧ t = .int .i64 last ∧ Hid (okF last (l.drop k) = R) ∧ Below w.heap.size w wr) (fun _ j _ => n - (intOf j).toNat)
  case atStart => exact ⟨0, 1, by omega, rfl, rfl, HR, Below.refl _ _⟩
  case round =>
    obtain ⟨k, last, hk, rfl, rfl, HK, hw⟩ := hrel
    have hz := hw.size
    by_cases hlt : k < n
    · have hlt' : k < l.length := by rw [hn.out]; exact hlt
      obtain ⟨x, hx⟩ : ∃ x, l[k] = x := ⟨_, rfl⟩
      obtain ⟨c0, c1⟩ := wrow_cells HC.out hlt'
      have HS := Lib.hid (okF_at (last := last) hlt')
      rw [hx] at c0 c1 HS
      have d0 := (hw.cell (p := ⟨b, off + k * 2, none⟩) hb).trans c0
      have d1 := (hw.cell (p := ⟨b, off + k * 2 + 1, none⟩) hb).trans c1
      obtain ⟨xi, xa⟩ := x
      have k0 : (0 : Int) ≤ (k : Int) := by omega
      have k1 : (k : Int) < (n : Int) := by omega
      clear c0 c1 hx hlt'
      by_cases hX : okX last ⟨xi, xa⟩ = true
      · obtain ⟨g1, g2, g3, g4⟩ := okX_iff.1 hX
        have HN : Hid (okF xa (l.drop (k + 1)) = R) := Lib.hid (by rw [← HK.out, HS.out, hX]; rfl)
        simp only at g1 g2 g3 g4 d0 d1
        clear hX
        go_wp2
        go_roundw
        case rel => exact ⟨k + 1, xa, by omega, by go_num, rfl, HN, by (repeat' (first | (with_reducible exact Below.refl _ _) | (with_reducible assumption) | (with_reducible refine Below.alloc ?_ ?_ _) | (with_reducible refine below_drewN ?_ _) | (with_reducible refine Below.drew ?_) | (with_reducible refine Below.setCell ?_ ?_ _) | (with_reducible refine below_two ?_ (by with_reducible assumption)) | go_size))⟩
        case measure => simp [intOf]; omega
      · have hX' : okX last ⟨xi, xa⟩ = false := by simpa using hX
        have HN : Hid (R = false) := Lib.hid (by rw [← HK.out, HS.out, hX']; rfl)
        have hno : Hid (¬ (0 ≤ xi ∧ xi ≤ 9007199254740991 ∧ last ≤ xa ∧ xa ≤ 9007199254740991)) := Lib.hid (fun h => hX (okX_iff.2 h))
        simp only at d0 d1
        clear hX hX'
        by_cases g1 : 0 ≤ xi
        · by_cases g2 : xi ≤ 9007199254740991
          · by_cases g3 : last ≤ xa
            · have g4 : ¬ xa ≤ 9007199254740991 := fun g4 => hno.out ⟨g1, g2, g3, g4⟩
              go_wp2
              go_ret
              exact ⟨by rw [HE2.out HN.out]; (first | done | rfl), by (repeat' (first | (with_reducible exact Below.refl _ _) | (with_reducible assumption) | (with_reducible refine Below.alloc ?_ ?_ _) | (with_reducible refine below_drewN ?_ _) | (with_reducible refine Below.drew ?_) | (with_reducible refine Below.setCell ?_ ?_ _) | (with_reducible refine below_two ?_ (by with_reducible assumption)) | go_size))⟩
            · go_wp2
              go_ret
              exact ⟨by rw [HE2.out HN.out]; (first | done | rfl), by (repeat' (first | (with_reducible exact Below.refl _ _) | (with_reducible assumption) | (with_reducible refine Below.alloc ?_ ?_ _) | (with_reducible refine below_drewN ?_ _) | (with_reducible refine Below.drew ?_) | (with_reducible refine Below.setCell ?_ ?_ _) | (with_reducible refine below_two ?_ (by with_reducible assumption)) | go_size))⟩
          · go_wp2
            go_ret
            exact ⟨by rw [HE2.out HN.out]; (first | done | rfl), by (repeat' (first | (with_reducible exact Below.refl _ _) | (with_reducible assumption) | (with_reducible refine Below.alloc ?_ ?_ _) | (with_reducible refine below_drewN ?_ _) | (with_reducible refine Below.drew ?_) | (with_reducible refine Below.setCell ?_ ?_ _) | (with_reducible refine below_two ?_ (by with_reducible assumption)) | go_size))⟩
        · go_wp2
          go_ret
          exact ⟨by rw [HE2.out HN.out]; (first | done | rfl), by (repeat' (first | (with_reducible exact Below.refl _ _) | (with_reducible assumption) | (with_reducible refine Below.alloc ?_ ?_ _) | (with_reducible refine below_drewN ?_ _) | (with_reducible refine Below.drew ?_) | (with_reducible refine Below.setCell ?_ ?_ _) | (with_reducible refine below_two ?_ (by with_reducible assumption)) | go_size))⟩
    · have HN : Hid (R = true) := Lib.hid (by rw [← HK.out, okF_end (by rw [hn.out]; omega)])
      go_wp2
      go_ret
      exact ⟨by rw [HE0.out HN.out]; (first | done | rfl), by (repeat' (first | (with_reducible exact Below.refl _ _) | (with_reducible assumption) | (with_reducible refine Below.alloc ?_ ?_ _) | (with_reducible refine below_drewN ?_ _) | (with_reducible refine Below.drew ?_) | (with_reducible refine Below.setCell ?_ ?_ _) | (with_reducible refine below_two ?_ (by with_reducible assumption)) | go_size))⟩

theorem check_nil (A : Option Addr) (c : Nat) (w : World) : Calls Try.prog 50 #[.slice A 0 c] w fun e w' => e = .returned (.int .i64 0) ∧ Below w.heap.size w w' := by
  go_enter Try.func50, Try.ntmps50
  go_wp2
  go_rounds 1
  go_ret
  exact ⟨rfl, Below.refl _ _⟩
theorem check_big (A : Option Addr) (n c : Nat) (hn : 256 < n) (hn' : n ≤ 9223372036854775807) (w : World) : Calls Try.prog 50 #[.slice A n c] w fun e w' => e = .returned (.int .i64 5) ∧ Below w.heap.size w w' := by
  go_enter Try.func50, Try.ntmps50
  go_wp2
  go_ret
  exact ⟨rfl, Below.refl _ _⟩

/-- Check, of any row. -/
theorem check_any (l : List Wt) (A : Option Addr) (n c : Nat) (w : World) (hn : Hid (l.length = n)) (hn' : n ≤ 9223372036854775807) (hA : WRow w A l) (e : Int) (he : errC l = e) :
    Calls Try.prog 50 #[.slice A n c] w fun r w' => r = .returned (.int .i64 e) ∧ Below w.heap.size w w' := by
  subst he
  rcases Nat.eq_zero_or_pos n with h0 | hp
  · have hl : l = [] := List.eq_nil_of_length_eq_zero (hn.out.trans h0)
    subst hl h0
    exact check_nil A c w
  · rcases Nat.lt_or_ge 256 n with hb | hs
    · rw [errC_big (by rw [hn.out]; exact hb)]
      exact check_big A n c hb hn' w
    · obtain ⟨b, off, rfl, hbl, hc⟩ := hA (by rw [rowV_len, hn.out]; omega)
      exact check_pos l b off c w n hn hs hbl hc

end Go.Proofs.Ytodaknidbdicdaa
