/-
  The walk of MemPlays.
-/
import Derived.Test.YtfhbfjlbflkbhaaLawE
import Derived.WalkKit
import Derived.Deep.DeepMust
import Derived.WalkSpells
import Derived.WalkLawsBesides
import Derived.Handy
import Derived.Lib.Hide
import Derived.Deep.QuietTactic
import Derived.BigQuiet
namespace Go.Proofs.Ytfhbfjlbflkbhaa
open Go.RowKit

theorem rnew_z (n : Nat) (z : Int) (ez : (n : Int) = z) (h1 : 1 ≤ n) (h2 : n ≤ 4096) (ws : List Nat) (hw : List.replicate n 0 = ws) (w : World) : Calls Try.prog 16 #[.int .i64 z] w fun e w' =>
    ∃ b g, e = .returned (.tuple #[.pointer (some ⟨b, 0, none⟩), .int .i64 0]) ∧ MemAt 58 w' b g ws 0 ∧ w.heap.size ≤ b ∧ w.heap.size ≤ g ∧ Below w.heap.size w w' := by
  subst ez hw
  exact rnew_ok n h1 h2 w

theorem plays_bad (i : Int) (h : i < 1 ∨ 4096 < i) (v : Value) (w : World) : Calls Try.prog 6 #[.int .i64 i, v] w fun e w' => e = .returned (.bool true) ∧ Below w.heap.size w w' := by
  have H := Lib.hid h
  clear h
  go_enter Try.func6, Try.ntmps6
  go_wp2_with (first | (go_at_call 10; with_reducible refine (new_err i H.out _).mono ?_; rintro e w0 ⟨rfl, hw0⟩; replace hw0 := hw0.symm; subst hw0) | (go_at_call 16; with_reducible refine (rnew_err i H.out _).mono ?_; rintro e w0 ⟨rfl, hw0⟩; replace hw0 := hw0.symm; subst hw0) | (go_at_call 8; with_reducible refine (works_any _).mono ?_; rintro e w3 ⟨rfl, hb3⟩))
  go_ret
  exact ⟨rfl, by (repeat' (first | (with_reducible exact Below.refl _ _) | (with_reducible assumption) | (with_reducible refine Below.alloc ?_ ?_ _) | (with_reducible refine below_drewN ?_ _) | (with_reducible refine Below.drew ?_) | (with_reducible refine Below.setCell ?_ ?_ _) | (with_reducible refine below_two ?_ (by with_reducible assumption)) | go_size))⟩

set_option maxRecDepth 100000 in
set_option maxHeartbeats 4000000 in
theorem plays_ok (n L : Nat) (F : Nat → Nat → Int) (A : Option Addr) (c : Nat) (hn1 : 1 ≤ n) (hn2 : n ≤ 4096) (hl : L ≤ 9223372036854775807) (w : World) (hA : Recs w A L 6 doK F) :
    Calls Try.prog 6 #[.int .i64 (n : Int), .slice A L c] w fun e w' => e = .returned (.bool true) ∧ Below w.heap.size w w' := by
  have HA := Lib.hid hA
  clear hA
  go_enter Try.func6, Try.ntmps6
  go_wp2_with (first | (go_at_call 10; with_reducible refine (new_z n n rfl hn1 hn2 _ rfl _).mono ?_; rintro e w1 ⟨b, g, rfl, hM, hb, hg, hB⟩) | (go_at_call 16; with_reducible refine (rnew_z n n rfl hn1 hn2 _ rfl _).mono ?_; rintro e w2 ⟨b', g', rfl, hM', hb', hg', hB'⟩; have hb1 := hM.head.lt; have hg1 := hM.row.lt; replace hM := hM.below hB'; replace hB := hB.trans (hB'.mono hB.size)))
  have n1 : b' ≠ b := by omega
  have n2 : b' ≠ g := by omega
  have n3 : g' ≠ b := by omega
  have n4 : g' ≠ g := by omega
  have zb' : w.heap.size ≤ b' := by omega
  have zg' : w.heap.size ≤ g' := by omega
  clear hB' hb1 hg1 hb' hg'
  go_loopw [9] (fun j wr => ∃ (k cnt : Nat) (ws : List Nat), k ≤ L ∧ k ≤ 80 ∧ j = .int .i64 k ∧ cnt ≤ k ∧ Hid (ws.length = n) ∧ MemAt 52 wr b g ws cnt ∧ MemAt 58 wr b' g' ws cnt ∧ Below w.heap.size w wr) (fun j _ => 80 - (intOf j).toNat)
  case atStart => exact ⟨0, 0, _, by omega, by omega, rfl, by omega, Lib.hid (by simp), hM, hM', hB⟩
  case round =>
    clear hM hM' hB
    obtain ⟨k, cnt, ws, hkL, hk80, rfl, hcn, hn, hM, hM', hB⟩ := hrel
    by_cases hlt : k < L ∧ k < 80
    · obtain ⟨hlt1, hlt2⟩ := hlt
      obtain ⟨b0, off, rfl, hbl, hcell⟩ := HA.out (by omega)
      have f0 := hcell k hlt1 0 (by omega)
      have f1 := hcell k hlt1 1 (by omega)
      have f2 := hcell k hlt1 2 (by omega)
      have f3 := hcell k hlt1 3 (by omega)
      have f4 := hcell k hlt1 4 (by omega)
      have f5 := hcell k hlt1 5 (by omega)
      obtain ⟨K, hK⟩ : ∃ K, F k 0 = K := ⟨_, rfl⟩
      obtain ⟨P, hP⟩ : ∃ P, F k 1 = P := ⟨_, rfl⟩
      obtain ⟨a2, h2⟩ : ∃ a : Nat, F k 2 = (a : Int) := Int.eq_ofNat_of_zero_le ((Lit.wf_int_iff _ _).1 f2.2).1
      obtain ⟨a3, h3⟩ : ∃ a : Nat, F k 3 = (a : Int) := Int.eq_ofNat_of_zero_le ((Lit.wf_int_iff _ _).1 f3.2).1
      obtain ⟨a4, h4⟩ : ∃ a : Nat, F k 4 = (a : Int) := Int.eq_ofNat_of_zero_le ((Lit.wf_int_iff _ _).1 f4.2).1
      obtain ⟨a5, h5⟩ : ∃ a : Nat, F k 5 = (a : Int) := Int.eq_ofNat_of_zero_le ((Lit.wf_int_iff _ _).1 f5.2).1
      have c0 : w.cell? ⟨b0, off + k * 6, none⟩ = some (.int .i64 K) := by rw [← hK]; exact f0.1
      have c1 : w.cell? ⟨b0, off + k * 6 + 1, none⟩ = some (.int .i64 P) := by rw [← hP]; exact f1.1
      have c2 : w.cell? ⟨b0, off + k * 6 + 2, none⟩ = some (.int .u64 (a2 : Int)) := by rw [← h2]; exact f2.1
      have c3 : w.cell? ⟨b0, off + k * 6 + 3, none⟩ = some (.int .u64 (a3 : Int)) := by rw [← h3]; exact f3.1
      have c4 : w.cell? ⟨b0, off + k * 6 + 4, none⟩ = some (.int .u64 (a4 : Int)) := by rw [← h4]; exact f4.1
      have c5 : w.cell? ⟨b0, off + k * 6 + 5, none⟩ = some (.int .u64 (a5 : Int)) := by rw [← h5]; exact f5.1
      have d0 := (hB.cell (p := ⟨b0, off + k * 6, none⟩) hbl).trans c0
      have d1 := (hB.cell (p := ⟨b0, off + k * 6 + 1, none⟩) hbl).trans c1
      have d2 := (hB.cell (p := ⟨b0, off + k * 6 + 2, none⟩) hbl).trans c2
      have d3 := (hB.cell (p := ⟨b0, off + k * 6 + 3, none⟩) hbl).trans c3
      have d4 := (hB.cell (p := ⟨b0, off + k * 6 + 4, none⟩) hbl).trans c4
      have d5 := (hB.cell (p := ⟨b0, off + k * 6 + 5, none⟩) hbl).trans c5
      have k0 : (0 : Int) ≤ (k : Int) := by omega
      have k1 : (k : Int) < (L : Int) := by omega
      have k2 : (k : Int) < 80 := by omega
      clear hcell f0 f1 f2 f3 f4 f5 h2 h3 h4 h5 hK hP c0 c1 c2 c3 c4 c5
      go_wp2_with (first | (go_at_call 17; (with_reducible refine (step_any w wr b g b' g' n cnt ws K P a2 a3 a4 a5 hM hM' hn hn1 hn2 (by omega) n1 n2 n3 n4 hB hb hg zb' zg').mono ?_); rintro e w3 ⟨rfl, ws', cnt', hn', hcn', hN, hN', hB3⟩; clear hM hM' hB) | (go_at_call 18; with_reducible refine (count_any _ b g _ _ hN).mono ?_; rintro e w0 ⟨rfl, hw0⟩; replace hw0 := hw0.symm; subst hw0) | (go_at_call 19; with_reducible refine (rcount_any _ b' g' _ _ hN').mono ?_; rintro e w0 ⟨rfl, hw0⟩; replace hw0 := hw0.symm; subst hw0) | (go_at_call 20; with_reducible refine (len_any _ b g _ _ n hN hn').mono ?_; rintro e w0 ⟨rfl, hw0⟩; replace hw0 := hw0.symm; subst hw0))
      go_roundw
      case rel => exact ⟨k + 1, cnt', ws', by omega, by omega, by go_num, by omega, hn', hN, hN', hB3⟩
      case measure => simp [intOf]; omega
    · by_cases hkl : k < L
      all_goals
        go_wp2_with (first | (go_at_call 22; with_reducible refine (words_any _ b g ws cnt n hM hn (by omega)).mono ?_; rintro e w1 ⟨v1, rfl, ho1, hb1⟩; obtain ⟨A1, c1, rfl, hr1⟩ := Row.slice ho1; replace hM' := hM'.below hb1; replace hB := hB.trans (hb1.mono hB.size)) | (go_at_call 23; with_reducible refine (rwords_any _ b' g' ws cnt n hM' hn (by omega)).mono ?_; rintro e w2 ⟨v2, rfl, ho2, hb2⟩; obtain ⟨A2, c2, rfl, hr2⟩ := Row.slice ho2; replace hB := hB.trans (hb2.mono hB.size); replace hr1 := hr1.below hb2) | (go_at_call 21; with_reducible refine (eqWs ws ws n n true hn.out hn.out (by omega) (by omega) (decide_eq_true rfl) _ _ _ _ _ hr1 hr2).mono ?_; rintro e w3 ⟨rfl, hb3⟩; replace hB := hB.trans (hb3.mono hB.size)) | (go_at_call 8; with_reducible refine (works_any _).mono ?_; rintro e w4 ⟨rfl, hb4⟩; replace hB := hB.trans (hb4.mono hB.size)))
        go_ret
        exact ⟨rfl, hB⟩

theorem plays_any (i : Int) (L : Nat) (F : Nat → Nat → Int) (A : Option Addr) (c : Nat) (hl : L ≤ maxLen) (w : World) (hA : Recs w A L 6 doK F) :
    Calls Try.prog 6 #[.int .i64 i, .slice A L c] w fun e w' => e = .returned (.bool true) ∧ Below w.heap.size w w' := by
  unfold maxLen at hl
  by_cases h : 1 ≤ i ∧ i ≤ 4096
  · obtain ⟨n, rfl⟩ := Int.eq_ofNat_of_zero_le (show 0 ≤ i by omega)
    exact plays_ok n L F A c (by omega) (by omega) hl w hA
  · exact plays_bad i (by omega) _ w

end Go.Proofs.Ytfhbfjlbflkbhaa
