/-
  The walk of EqInts: two rows of numbers against each other.
-/
import Derived.Test.YtodaknidbdicdaaRows
import Derived.Test.YtodaknidbdicdaaRow
import Derived.WalkKit
import Derived.Deep.DeepMust
import Derived.WalkSpells
import Derived.WalkLawsBesides
import Derived.Handy
import Derived.Lib.Hide
import Derived.Deep.QuietTactic
import Derived.BigQuiet
namespace Go.Proofs.Ytodaknidbdicdaa
open Go.RowKit

abbrev intsV (l : List Int) : List Value := l.map (Value.int .i64)
theorem intsV_at {l : List Int} {k : Nat} (h : k < l.length) : (intsV l)[k]? = some (.int .i64 l[k]) := by simp [h]
theorem intsV_len (l : List Int) : (intsV l).length = l.length := List.length_map _

theorem ints_ne {xs ys : List Int} {k : Nat} {x y : Int} (hx : xs[k]? = some x) (hy : ys[k]? = some y) (h : ¬ x = y) : decide (xs = ys) = false := by
  rw [decide_eq_false_iff_not]
  intro he
  rw [he, hy] at hx
  injection hx with hx
  exact h hx.symm

theorem eqInts_pos (xs ys : List Int) (b off b' off' c d : Nat) (w : World) (hx : xs.length ≤ 9223372036854775807) (hl : xs.length = ys.length) (hb : b < w.heap.size) (hb' : b' < w.heap.size)
    (hA : ∀ j u, (intsV xs)[j]? = some u → w.cell? ⟨b, off + j, none⟩ = some u) (hB : ∀ j u, (intsV ys)[j]? = some u → w.cell? ⟨b', off' + j, none⟩ = some u) :
    Calls Try.prog 34 #[.slice (some ⟨b, off, none⟩) xs.length c, .slice (some ⟨b', off', none⟩) ys.length d] w fun e w' => e = .returned (.bool (decide (xs = ys))) ∧ Below w.heap.size w w' := by
  have HA := Lib.hid hA
  have HB := Lib.hid hB
  have HL := Lib.hid hl
  have hlb : ((xs.length : Int) != (ys.length : Int)) = false := by rw [hl]; simp
  obtain ⟨R, hR⟩ : ∃ R, decide (xs = ys) = R := ⟨_, rfl⟩
  rw [hR]
  have HR := Lib.hid hR
  clear hA hB hl hR
  go_enter Try.func34, Try.ntmps34
  go_wp2
  go_loopw [5] (fun j wr => ∃ k : Nat, k ≤ xs.length ∧ j = .int .i64 k ∧ Hid (∀ i, i < k → xs[i]? = ys[i]?) ∧ Below w.heap.size w wr) (fun j _ => xs.length - (intOf j).toNat)
  case atStart => exact ⟨0, by omega, rfl, Lib.hid (fun i hi => absurd hi (Nat.not_lt_zero i)), Below.refl _ _⟩
  case round =>
    obtain ⟨k, hk, rfl, HK, hw⟩ := hrel
    by_cases hlt : k < xs.length
    · have hlt' : k < ys.length := by rw [← HL.out]; exact hlt
      have cA := (hw.cell (p := ⟨b, off + k, none⟩) hb).trans (HA.out k _ (intsV_at hlt))
      have cB := (hw.cell (p := ⟨b', off' + k, none⟩) hb').trans (HB.out k _ (intsV_at hlt'))
      obtain ⟨x, hx'⟩ : ∃ x, xs[k] = x := ⟨_, rfl⟩
      obtain ⟨y, hy'⟩ : ∃ y, ys[k] = y := ⟨_, rfl⟩
      have ex : xs[k]? = some x := by rw [List.getElem?_eq_getElem hlt, hx']
      have ey : ys[k]? = some y := by rw [List.getElem?_eq_getElem hlt', hy']
      have HX := Lib.hid ex
      have HY := Lib.hid ey
      rw [hx'] at cA
      rw [hy'] at cB
      have i0 : (0 : Int) ≤ (k : Int) := by omega
      have i1 : (k : Int) < (xs.length : Int) := by omega
      have i2 : (k : Int) < (ys.length : Int) := by omega
      clear ex ey hx' hy'
      by_cases hxy : x = y
      · have hb1 : (x != y) = false := by rw [hxy]; simp
        have HN : Hid (∀ i, i < k + 1 → xs[i]? = ys[i]?) := Lib.hid (fun i hi => by
          rcases Nat.lt_or_ge i k with h | h
          · exact HK.out i h
          · have : i = k := by omega
            rw [this, HX.out, HY.out, hxy])
        clear hxy
        go_wp2
        go_quiet (fail)
        go_wp2
        go_roundw
        case rel => exact ⟨k + 1, by omega, by go_num, HN, by (repeat' (first | (with_reducible exact Below.refl _ _) | (with_reducible assumption) | (with_reducible refine Below.alloc ?_ ?_ _) | (with_reducible refine below_drewN ?_ _) | (with_reducible refine Below.drew ?_) | (with_reducible refine Below.setCell ?_ ?_ _) | (with_reducible refine below_two ?_ (by with_reducible assumption)) | go_size))⟩
        case measure => simp [intOf]; omega
      · have hb1 : (x != y) = true := by rw [bne_iff_ne]; exact hxy
        have HN := Lib.hid (ints_ne HX.out HY.out hxy)
        clear hxy
        go_wp2
        go_quiet (fail)
        go_wp2
        go_ret
        exact ⟨by rw [← HR.out, HN.out]; (first | done | rfl), by (repeat' (first | (with_reducible exact Below.refl _ _) | (with_reducible assumption) | (with_reducible refine Below.alloc ?_ ?_ _) | (with_reducible refine below_drewN ?_ _) | (with_reducible refine Below.drew ?_) | (with_reducible refine Below.setCell ?_ ?_ _) | (with_reducible refine below_two ?_ (by with_reducible assumption)) | go_size))⟩
    · have HN : Hid (decide (xs = ys) = true) := Lib.hid (by
        rw [decide_eq_true_iff]
        apply List.ext_getElem?
        intro i
        rcases Nat.lt_or_ge i k with h | h
        · exact HK.out i h
        · rw [List.getElem?_eq_none (by omega), List.getElem?_eq_none (by rw [← HL.out]; omega)])
      go_wp2
      go_ret
      exact ⟨by rw [← HR.out, HN.out]; (first | done | rfl), by (repeat' (first | (with_reducible exact Below.refl _ _) | (with_reducible assumption) | (with_reducible refine Below.alloc ?_ ?_ _) | (with_reducible refine below_drewN ?_ _) | (with_reducible refine Below.drew ?_) | (with_reducible refine Below.setCell ?_ ?_ _) | (with_reducible refine below_two ?_ (by with_reducible assumption)) | go_size))⟩

theorem eqInts_any (xs ys : List Int) (A B : Option Addr) (c d : Nat) (w : World) (hx : xs.length ≤ 9223372036854775807) (_hy : ys.length ≤ 9223372036854775807) (hA : Row w A (intsV xs)) (hB : Row w B (intsV ys)) :
    Calls Try.prog 34 #[.slice A xs.length c, .slice B ys.length d] w fun e w' => e = .returned (.bool (decide (xs = ys))) ∧ Below w.heap.size w w' := by
  by_cases hl : xs.length = ys.length
  · rcases Nat.eq_zero_or_pos xs.length with h0 | h0
    · have e1 := List.eq_nil_of_length_eq_zero h0
      have e2 := List.eq_nil_of_length_eq_zero (hl.symm.trans h0)
      subst e1 e2
      clear hl h0 hA hB
      simp only [List.length_nil, decide_true]
      go_enter Try.func34, Try.ntmps34
      go_wp2
      go_rounds 1
      go_ret
      exact ⟨rfl, Below.refl _ _⟩
    · obtain ⟨b, off, rfl, hb, hc⟩ := hA (by rw [intsV_len]; exact h0)
      obtain ⟨b', off', rfl, hb', hc'⟩ := hB (by rw [intsV_len, ← hl]; exact h0)
      exact eqInts_pos xs ys b off b' off' c d w hx hl hb hb' hc hc'
  · have hlb : ((xs.length : Int) != (ys.length : Int)) = true := by rw [bne_iff_ne]; omega
    rw [show decide (xs = ys) = false by rw [decide_eq_false_iff_not]; intro h; exact hl (by rw [h])]
    clear hl hA hB
    go_enter Try.func34, Try.ntmps34
    go_wp2
    go_ret
    exact ⟨rfl, Below.refl _ _⟩

end Go.Proofs.Ytodaknidbdicdaa
