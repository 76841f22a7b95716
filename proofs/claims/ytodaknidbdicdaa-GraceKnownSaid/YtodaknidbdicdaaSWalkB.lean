/-
  The walk of the reference's Check.
-/
import Derived.Test.YtodaknidbdicdaaSWalkA
import Derived.WalkKit
import Derived.Deep.DeepMust
import Derived.WalkSpells
import Derived.WalkLawsBesides
import Derived.Handy
import Derived.Lib.Hide
import Derived.Deep.QuietTactic
import Derived.BigQuiet
namespace Go.Proofs.Ytodaknidbdicdaa
open Go.RowKit

/-- What is known at each round's head: the record ahead, if there is one, waits for 'last'; else that is 1. -/
def Ahead (l : List Wt) (k : Nat) (last : Int) : Prop := (k = 0 ∧ last = 1) ∨ (0 < k ∧ 1 ≤ last ∧ ∃ h : k - 1 < l.length, (l[k - 1]).at_ = last)

set_option maxHeartbeats 4000000 in
theorem refCheck_pos (l : List Wt) (b off c : Nat) (w : World) (n : Nat) (hn : Hid (l.length = n)) (hn' : n ≤ 256) (hb : b < w.heap.size) (hc : ∀ j u, (rowV l)[j]? = some u → w.cell? ⟨b, off + j, none⟩ = some u) :
    Calls Try.prog 52 #[.slice (some ⟨b, off, none⟩) n c] w fun e w' => e = .returned (.int .i64 (errC l)) ∧ Below w.heap.size w w' := by
  have HC := Lib.hid hc
  obtain ⟨R, hR⟩ : ∃ R, okF 1 l = R := ⟨_, rfl⟩
  have HE0 : Hid (R = true → errC l = 0) := Lib.hid (fun h => errC_ok (by rw [hn.out]; exact hn') (by rw [hR, h]))
  have HE2 : Hid (R = false → errC l = 2) := Lib.hid (fun h => errC_bad (by rw [hn.out]; exact hn') (by rw [hR, h]))
  have HR := Lib.hid hR
  clear hc hR
  go_enter Try.func52, Try.ntmps52
  go_wp2
  go_loopw [3] (fun j wr => ∃ (k : Nat) (last : Int), k ≤ n ∧ j = .int .i64 k ∧ Ahead l k last ∧ Hid (okF last (l.drop k) = R) ∧ Below w.heap.size w wr) (fun j _ => n - (intOf j).toNat)
  case atStart => exact ⟨0, 1, by omega, rfl, .inl ⟨rfl, rfl⟩, HR, Below.refl _ _⟩
  case round =>
    obtain ⟨k, last, hk, rfl, hA, HK, hw⟩ := hrel
    have hz := hw.size
    by_cases hlt : k < n
    · have hlt' : k < l.length := by rw [hn.out]; exact hlt
      obtain ⟨x, hx⟩ : ∃ x, l[k] = x := ⟨_, rfl⟩
      obtain ⟨c0, c1⟩ := wrow_cells HC.out hlt'
      have HS := Lib.hid (okF_at (last := last) hlt')
      rw [hx] at c0 c1 HS
      have d0 := (hw.cell (p := ⟨b, off + k * 2, none⟩) hb).trans c0
      have d1 := (hw.cell (p := ⟨b, off + k * 2 + 1, none⟩) hb).trans c1
      obtain ⟨xi, xa⟩ := x
      have k0 : (0 : Int) ≤ (k : Int) := by omega
      have k1 : (k : Int) < (n : Int) := by omega
      have HX := Lib.hid hx
      have hp : Hid (0 < k → w.cell? ⟨b, off + (k - 1) * 2 + 1, none⟩ = some (.int .i64 last)) := Lib.hid (fun h0 => by
        rcases hA with ⟨h, _⟩ | ⟨_, _, h, e⟩
        · omega
        · rw [(wrow_cells HC.out h).2, e])
      have hl1 : 1 ≤ last := by
        rcases hA with ⟨_, h⟩ | ⟨_, h, _⟩ <;> omega
      have hl0 : k = 0 → last = 1 := fun h => by
        rcases hA with ⟨_, h'⟩ | ⟨h', _⟩
        · exact h'
        · omega
      have HL0 := Lib.hid hl0
      clear c0 c1 hx hA hl0
      have HN0 : Hid (okX last ⟨xi, xa⟩ = false → R = false) := Lib.hid (fun h => by rw [← HK.out, HS.out, h]; rfl)
      have HN1 : Hid (okX last ⟨xi, xa⟩ = true → okF xa (l.drop (k + 1)) = R) := Lib.hid (fun h => by rw [← HK.out, HS.out, h]; rfl)
      simp only at d0 d1
      by_cases g1 : xi < 0
      · have t1 : decide (xi < 0) = true := decide_eq_true g1
        have HN := Lib.hid (HN0.out (by rw [← Bool.not_eq_true]; intro h; obtain ⟨h1, h2, h3, h4⟩ := okX_iff.1 h; simp only at h1 h2 h3 h4; omega))
        clear hl1
        go_wp2
        go_quiet (fail)
        go_wp2
        go_ret
        exact ⟨by rw [HE2.out HN.out]; (first | done | rfl), by (repeat' (first | (with_reducible exact Below.refl _ _) | (with_reducible assumption) | (with_reducible refine Below.alloc ?_ ?_ _) | (with_reducible refine below_drewN ?_ _) | (with_reducible refine Below.drew ?_) | (with_reducible refine Below.setCell ?_ ?_ _) | (with_reducible refine below_two ?_ (by with_reducible assumption)) | go_size))⟩
      have t1 : decide (xi < 0) = false := decide_eq_false g1
      by_cases g2 : 9007199254740991 < xi
      · have t2 : decide (9007199254740991 < xi) = true := decide_eq_true g2
        have HN := Lib.hid (HN0.out (by rw [← Bool.not_eq_true]; intro h; obtain ⟨h1, h2, h3, h4⟩ := okX_iff.1 h; simp only at h1 h2 h3 h4; omega))
        clear hl1
        go_wp2
        go_quiet (fail)
        go_wp2
        go_ret
        exact ⟨by rw [HE2.out HN.out]; (first | done | rfl), by (repeat' (first | (with_reducible exact Below.refl _ _) | (with_reducible assumption) | (with_reducible refine Below.alloc ?_ ?_ _) | (with_reducible refine below_drewN ?_ _) | (with_reducible refine Below.drew ?_) | (with_reducible refine Below.setCell ?_ ?_ _) | (with_reducible refine below_two ?_ (by with_reducible assumption)) | go_size))⟩
      have t2 : decide (9007199254740991 < xi) = false := decide_eq_false g2
      by_cases g3 : xa < 1
      · have t3 : decide (xa < 1) = true := decide_eq_true g3
        have HN := Lib.hid (HN0.out (by rw [← Bool.not_eq_true]; intro h; obtain ⟨h1, h2, h3, h4⟩ := okX_iff.1 h; simp only at h1 h2 h3 h4; omega))
        clear hl1
        go_wp2
        go_quiet (fail)
        go_wp2
        go_ret
        exact ⟨by rw [HE2.out HN.out]; (first | done | rfl), by (repeat' (first | (with_reducible exact Below.refl _ _) | (with_reducible assumption) | (with_reducible refine Below.alloc ?_ ?_ _) | (with_reducible refine below_drewN ?_ _) | (with_reducible refine Below.drew ?_) | (with_reducible refine Below.setCell ?_ ?_ _) | (with_reducible refine below_two ?_ (by with_reducible assumption)) | go_size))⟩
      have t3 : decide (xa < 1) = false := decide_eq_false g3
      by_cases g4 : 9007199254740991 < xa
      · have t4 : decide (9007199254740991 < xa) = true := decide_eq_true g4
        have HN := Lib.hid (HN0.out (by rw [← Bool.not_eq_true]; intro h; obtain ⟨h1, h2, h3, h4⟩ := okX_iff.1 h; simp only at h1 h2 h3 h4; omega))
        clear hl1
        go_wp2
        go_quiet (fail)
        go_wp2
        go_ret
        exact ⟨by rw [HE2.out HN.out]; (first | done | rfl), by (repeat' (first | (with_reducible exact Below.refl _ _) | (with_reducible assumption) | (with_reducible refine Below.alloc ?_ ?_ _) | (with_reducible refine below_drewN ?_ _) | (with_reducible refine Below.drew ?_) | (with_reducible refine Below.setCell ?_ ?_ _) | (with_reducible refine below_two ?_ (by with_reducible assumption)) | go_size))⟩
      have t4 : decide (9007199254740991 < xa) = false := decide_eq_false g4
      by_cases g5 : 0 < k
      · have t5 : decide ((0 : Int) < (k : Int)) = true := decide_eq_true (by omega)
        have p1 := (hw.cell (p := ⟨b, off + (k - 1) * 2 + 1, none⟩) hb).trans (hp.out g5)
        have p2 : (wr.alloc (.cells #[.int .i64 xi, .int .i64 xa] 78)).cell? ⟨b, off + (k - 1) * 2 + 1, none⟩ = some (.int .i64 last) := cell_alloc p1
        have i0 : (0 : Int) ≤ (k : Int) - 1 := by omega
        have i1 : (k : Int) - 1 < (n : Int) := by omega
        have i2 : IntKind.i64.wrap ((k : Int) - 1) = (k : Int) - 1 := IntWalk.i64_in _ (by omega)
        have i3 : ((k : Int) - 1).toNat = k - 1 := by omega
        have i4 : (1 : Int) ≤ (k : Int) := by omega
        by_cases g6 : xa < last
        · have t6 : decide (xa < last) = true := decide_eq_true g6
          have HN := Lib.hid (HN0.out (by rw [← Bool.not_eq_true]; intro h; obtain ⟨h1, h2, h3, h4⟩ := okX_iff.1 h; simp only at h1 h2 h3 h4; omega))
          clear hl1
          go_wp2
          go_quiet (fail)
          go_wp2
          go_ret
          exact ⟨by rw [HE2.out HN.out]; (first | done | rfl), by (repeat' (first | (with_reducible exact Below.refl _ _) | (with_reducible assumption) | (with_reducible refine Below.alloc ?_ ?_ _) | (with_reducible refine below_drewN ?_ _) | (with_reducible refine Below.drew ?_) | (with_reducible refine Below.setCell ?_ ?_ _) | (with_reducible refine below_two ?_ (by with_reducible assumption)) | go_size))⟩
        have t6 : decide (xa < last) = false := decide_eq_false g6
        have HN := Lib.hid (HN1.out (okX_iff.2 ⟨by simp only; omega, by simp only; omega, by simp only; omega, by simp only; omega⟩))
        go_wp2
        go_quiet (fail)
        go_wp2
        go_roundw
        case rel => exact ⟨k + 1, xa, by omega, by go_num, .inr ⟨by omega, by omega, by omega, by simp only [Nat.add_sub_cancel, HX.out]⟩, HN, by (repeat' (first | (with_reducible exact Below.refl _ _) | (with_reducible assumption) | (with_reducible refine Below.alloc ?_ ?_ _) | (with_reducible refine below_drewN ?_ _) | (with_reducible refine Below.drew ?_) | (with_reducible refine Below.setCell ?_ ?_ _) | (with_reducible refine below_two ?_ (by with_reducible assumption)) | go_size))⟩
        case measure => simp [intOf]; omega
      have t5 : decide ((0 : Int) < (k : Int)) = false := decide_eq_false (by omega)
      have hl := HL0.out (by omega)
      have HHL := Lib.hid hl
      have hl2 : last ≤ 1 := by omega
      clear hl
      have HN := Lib.hid (HN1.out (okX_iff.2 ⟨by simp only; omega, by simp only; omega, by simp only; omega, by simp only; omega⟩))
      go_wp2
      go_quiet (fail)
      go_wp2
      go_roundw
      case rel => exact ⟨k + 1, xa, by omega, by go_num, .inr ⟨by omega, by omega, by omega, by simp only [Nat.add_sub_cancel, HX.out]⟩, HN, by (repeat' (first | (with_reducible exact Below.refl _ _) | (with_reducible assumption) | (with_reducible refine Below.alloc ?_ ?_ _) | (with_reducible refine below_drewN ?_ _) | (with_reducible refine Below.drew ?_) | (with_reducible refine Below.setCell ?_ ?_ _) | (with_reducible refine below_two ?_ (by with_reducible assumption)) | go_size))⟩
      case measure => simp [intOf]; omega
    · have HN : Hid (R = true) := Lib.hid (by rw [← HK.out, okF_end (by rw [hn.out]; omega)])
      clear hA
      go_wp2
      go_ret
      exact ⟨by rw [HE0.out HN.out]; (first | done | rfl), by (repeat' (first | (with_reducible exact Below.refl _ _) | (with_reducible assumption) | (with_reducible refine Below.alloc ?_ ?_ _) | (with_reducible refine below_drewN ?_ _) | (with_reducible refine Below.drew ?_) | (with_reducible refine Below.setCell ?_ ?_ _) | (with_reducible refine below_two ?_ (by with_reducible assumption)) | go_size))⟩

theorem refCheck_nil (A : Option Addr) (c : Nat) (w : World) : Calls Try.prog 52 #[.slice A 0 c] w fun e w' => e = .returned (.int .i64 0) ∧ Below w.heap.size w w' := by
  go_enter Try.func52, Try.ntmps52
  go_wp2
  go_rounds 1
  go_ret
  exact ⟨rfl, Below.refl _ _⟩
theorem refCheck_big (A : Option Addr) (n c : Nat) (hn : 256 < n) (hn' : n ≤ 9223372036854775807) (w : World) : Calls Try.prog 52 #[.slice A n c] w fun e w' => e = .returned (.int .i64 5) ∧ Below w.heap.size w w' := by
  go_enter Try.func52, Try.ntmps52
  go_wp2
  go_ret
  exact ⟨rfl, Below.refl _ _⟩
theorem refCheck_any (l : List Wt) (A : Option Addr) (n c : Nat) (w : World) (hn : Hid (l.length = n)) (hn' : n ≤ 9223372036854775807) (hA : WRow w A l) (e : Int) (he : errC l = e) :
    Calls Try.prog 52 #[.slice A n c] w fun r w' => r = .returned (.int .i64 e) ∧ Below w.heap.size w w' := by
  subst he
  rcases Nat.eq_zero_or_pos n with h0 | hp
  · have hl : l = [] := List.eq_nil_of_length_eq_zero (hn.out.trans h0)
    subst hl h0
    exact refCheck_nil A c w
  · rcases Nat.lt_or_ge 256 n with hb | hs
    · rw [errC_big (by rw [hn.out]; exact hb)]
      exact refCheck_big A n c hb hn' w
    · obtain ⟨b, off, rfl, hbl, hc⟩ := hA (by rw [rowV_len, hn.out]; omega)
      exact refCheck_pos l b off c w n hn hs hbl hc

end Go.Proofs.Ytodaknidbdicdaa
