/-
  The walks of Same, and of Ready.
-/
import Derived.Test.YthfnnlcfakkabaaWalkE
import Derived.Test.YthfnnlcfakkabaaEqInts
import Derived.WalkKit
import Derived.Deep.DeepMust
import Derived.WalkSpells
import Derived.WalkLawsBesides
import Derived.Handy
import Derived.Lib.Hide
import Derived.Deep.QuietTactic
import Derived.BigQuiet
namespace Go.Proofs.Ythfnnlcfakkabaa
open Go.RowKit

theorem rows_ne {xs ys : List Wt} {k : Nat} {x y : Wt} (hx : xs[k]? = some x) (hy : ys[k]? = some y) (h : x ≠ y) : decide (xs = ys) = false := by
  rw [decide_eq_false_iff_not]
  intro he
  rw [he, hy] at hx
  injection hx with hx
  exact h hx.symm

set_option maxHeartbeats 2000000 in
theorem same_pos (xs ys : List Wt) (b off b' off' n c d : Nat) (w : World) (hx : n ≤ 9223372036854775807) (hl : Hid (xs.length = n)) (hl' : Hid (ys.length = n)) (hb : b < w.heap.size) (hb' : b' < w.heap.size)
    (hA : ∀ j u, (rowV xs)[j]? = some u → w.cell? ⟨b, off + j, none⟩ = some u) (hB : ∀ j u, (rowV ys)[j]? = some u → w.cell? ⟨b', off' + j, none⟩ = some u) :
    Calls Try.prog 16 #[.slice (some ⟨b, off, none⟩) n c, .slice (some ⟨b', off', none⟩) n d] w fun e w' => e = .returned (.bool (decide (xs = ys))) ∧ Below w.heap.size w w' := by
  have HA := Lib.hid hA
  have HB := Lib.hid hB
  obtain ⟨R, hR⟩ : ∃ R, decide (xs = ys) = R := ⟨_, rfl⟩
  rw [hR]
  have HR := Lib.hid hR
  clear hA hB hR
  go_enter Try.func16, Try.ntmps16
  go_wp2
  go_loopw [5] (fun j wr => ∃ k : Nat, k ≤ n ∧ j = .int .i64 k ∧ Hid (∀ i, i < k → xs[i]? = ys[i]?) ∧ Below w.heap.size w wr) (fun j _ => n - (intOf j).toNat)
  case atStart => exact ⟨0, by omega, rfl, Lib.hid (fun i hi => absurd hi (Nat.not_lt_zero i)), Below.refl _ _⟩
  case round =>
    obtain ⟨k, hk, rfl, HK, hw⟩ := hrel
    by_cases hlt : k < n
    · have h1 : k < xs.length := by rw [hl.out]; exact hlt
      have h2 : k < ys.length := by rw [hl'.out]; exact hlt
      obtain ⟨x, hx'⟩ : ∃ x, xs[k] = x := ⟨_, rfl⟩
      obtain ⟨y, hy'⟩ : ∃ y, ys[k] = y := ⟨_, rfl⟩
      have HX : Hid (xs[k]? = some x) := Lib.hid (by rw [List.getElem?_eq_getElem h1, hx'])
      have HY : Hid (ys[k]? = some y) := Lib.hid (by rw [List.getElem?_eq_getElem h2, hy'])
      obtain ⟨c0, c1⟩ := wrow_cells HA.out h1
      obtain ⟨e0, e1⟩ := wrow_cells HB.out h2
      rw [hx'] at c0 c1
      rw [hy'] at e0 e1
      obtain ⟨xi, xa⟩ := x
      obtain ⟨yi, ya⟩ := y
      simp only at c0 c1 e0 e1
      have p0 := (hw.cell (p := ⟨b, off + k * 2, none⟩) hb).trans c0
      have p1 := (hw.cell (p := ⟨b, off + k * 2 + 1, none⟩) hb).trans c1
      have q0 := (hw.cell (p := ⟨b', off' + k * 2, none⟩) hb').trans e0
      have q1 := (hw.cell (p := ⟨b', off' + k * 2 + 1, none⟩) hb').trans e1
      have i0 : (0 : Int) ≤ (k : Int) := by omega
      have i1 : (k : Int) < (n : Int) := by omega
      clear hx' hy' c0 c1 e0 e1 h1 h2
      by_cases hxy : xi = yi ∧ xa = ya
      · obtain ⟨rfl, rfl⟩ := hxy
        have HN : Hid (∀ i, i < k + 1 → xs[i]? = ys[i]?) := Lib.hid (fun i hi => by
          rcases Nat.lt_or_ge i k with h | h
          · exact HK.out i h
          · have : i = k := by omega
            rw [this, HX.out, HY.out])
        go_wp2
        go_quiet (fail)
        go_wp2
        go_roundw
        case rel => exact ⟨k + 1, by omega, by go_num, HN, by (repeat' (first | (with_reducible exact Below.refl _ _) | (with_reducible assumption) | (with_reducible refine Below.alloc ?_ ?_ _) | (with_reducible refine below_drewN ?_ _) | (with_reducible refine Below.drew ?_) | (with_reducible refine Below.setCell ?_ ?_ _) | (with_reducible refine below_two ?_ (by with_reducible assumption)) | go_size))⟩
        case measure => simp [intOf]; omega
      · have HN := Lib.hid (rows_ne HX.out HY.out (by intro h; injection h with h1 h2; exact hxy ⟨h1, h2⟩))
        by_cases hx0 : xi = yi
        · subst hx0
          have hx1 : ¬ xa = ya := fun h => hxy ⟨rfl, h⟩
          clear hxy
          go_wp2
          go_quiet (fail)
          go_wp2
          go_ret
          exact ⟨by rw [← HR.out, HN.out]; (first | done | rfl), by (repeat' (first | (with_reducible exact Below.refl _ _) | (with_reducible assumption) | (with_reducible refine Below.alloc ?_ ?_ _) | (with_reducible refine below_drewN ?_ _) | (with_reducible refine Below.drew ?_) | (with_reducible refine Below.setCell ?_ ?_ _) | (with_reducible refine below_two ?_ (by with_reducible assumption)) | go_size))⟩
        · clear hxy
          go_wp2
          go_quiet (fail)
          go_wp2
          go_ret
          exact ⟨by rw [← HR.out, HN.out]; (first | done | rfl), by (repeat' (first | (with_reducible exact Below.refl _ _) | (with_reducible assumption) | (with_reducible refine Below.alloc ?_ ?_ _) | (with_reducible refine below_drewN ?_ _) | (with_reducible refine Below.drew ?_) | (with_reducible refine Below.setCell ?_ ?_ _) | (with_reducible refine below_two ?_ (by with_reducible assumption)) | go_size))⟩
    · have HN : Hid (decide (xs = ys) = true) := Lib.hid (by
        rw [decide_eq_true_iff]
        apply List.ext_getElem?
        intro i
        rcases Nat.lt_or_ge i k with h | h
        · exact HK.out i h
        · rw [List.getElem?_eq_none (by rw [hl.out]; omega), List.getElem?_eq_none (by rw [hl'.out]; omega)])
      go_wp2
      go_ret
      exact ⟨by rw [← HR.out, HN.out]; (first | done | rfl), by (repeat' (first | (with_reducible exact Below.refl _ _) | (with_reducible assumption) | (with_reducible refine Below.alloc ?_ ?_ _) | (with_reducible refine below_drewN ?_ _) | (with_reducible refine Below.drew ?_) | (with_reducible refine Below.setCell ?_ ?_ _) | (with_reducible refine below_two ?_ (by with_reducible assumption)) | go_size))⟩

theorem same_any (xs ys : List Wt) (n m : Nat) (r : Bool) (hn : Hid (xs.length = n)) (hm : Hid (ys.length = m)) (hn' : n ≤ 9223372036854775807) (hm' : m ≤ 9223372036854775807) (hr : decide (xs = ys) = r) (A B : Option Addr) (c d : Nat) (w : World) (hA : WRow w A xs) (hB : WRow w B ys) :
    Calls Try.prog 16 #[.slice A n c, .slice B m d] w fun e w' => e = .returned (.bool r) ∧ Below w.heap.size w w' := by
  subst hr
  by_cases hl : n = m
  · subst hl
    rcases Nat.eq_zero_or_pos n with h0 | h0
    · have e1 : xs = [] := List.eq_nil_of_length_eq_zero (hn.out.trans h0)
      have e2 : ys = [] := List.eq_nil_of_length_eq_zero (hm.out.trans h0)
      subst e1 e2 h0
      clear hA hB hn' hm'
      simp only [decide_true]
      go_enter Try.func16, Try.ntmps16
      go_wp2
      go_rounds 1
      go_ret
      exact ⟨rfl, Below.refl _ _⟩
    · obtain ⟨b, off, rfl, hb, hc⟩ := hA (by rw [rowV_len, hn.out]; omega)
      obtain ⟨b', off', rfl, hb', hc'⟩ := hB (by rw [rowV_len, hm.out]; omega)
      exact same_pos xs ys b off b' off' n c d w hn' hn hm hb hb' hc hc'
  · have hlb : ((n : Int) != (m : Int)) = true := by rw [bne_iff_ne]; omega
    rw [show decide (xs = ys) = false by rw [decide_eq_false_iff_not]; intro h; exact hl (by rw [← hn.out, ← hm.out, h])]
    clear hl hA hB
    go_enter Try.func16, Try.ntmps16
    go_wp2
    go_ret
    exact ⟨rfl, Below.refl _ _⟩

end Go.Proofs.Ythfnnlcfakkabaa
