/-
  The walk of SegsCut.
-/
import Derived.Test.YthfnnlcfakkabaaLawC
import Derived.WalkKit
import Derived.Deep.DeepMust
import Derived.WalkSpells
import Derived.WalkLawsBesides
import Derived.Handy
import Derived.Lib.Hide
import Derived.Deep.QuietTactic
import Derived.BigQuiet
namespace Go.Proofs.Ythfnnlcfakkabaa
open Go.RowKit

theorem idsL_at {l : List Wt} {K k : Nat} (hk : k < K) (h : k < l.length) : (intsV (idsL (l.take K)))[k]? = some (.int .i64 l[k].id) := by
  simp [intsV, idsL, hk, h]

theorem cut_err (l : List Wt) (n c : Nat) (A : Option Addr) (d : Int) (hn : Hid (l.length = n)) (hn' : n ≤ 9223372036854775807) (er : Int) (he : Hid (errC l = er)) (h0 : er ≠ 0) (w : World) (hA : WRow w A l) :
    Calls Try.prog 5 #[.slice A n c, .int .i64 d] w fun e w' => e = .returned (.bool true) ∧ Below w.heap.size w w' := by
  have HA := Lib.hid hA
  have H0 := Lib.hid h0
  have hne : (er != 0) = true := bne_iff_ne.2 h0
  clear hA h0
  go_enter Try.func5, Try.ntmps5
  go_wp2_with (first | (go_at_call 17; with_reducible refine (works_any _).mono ?_; rintro e w1 ⟨rfl, hb1⟩; have hA1 := HA.out.below hb1; have z1 := hb1.size) | (go_at_call 18; (with_reducible refine (ready_err l d A n c _ hn hn' hA1 er he H0.out).mono ?_); rintro e w2 ⟨rfl, hb2⟩; have hA2 := hA1.below hb2; have z2 := hb2.size) | (go_at_call 12; (with_reducible refine (check_any l A n c _ hn hn' hA2 er he.out).mono ?_); rintro e w3 ⟨rfl, hb3⟩))
  go_ret
  exact ⟨rfl, by (repeat' (first | (with_reducible exact Below.refl _ _) | (with_reducible assumption) | (with_reducible refine Below.alloc ?_ ?_ _) | (with_reducible refine below_drewN ?_ _) | (with_reducible refine Below.drew ?_) | (with_reducible refine Below.setCell ?_ ?_ _) | (with_reducible refine below_two ?_ (by with_reducible assumption)) | go_size))⟩

set_option maxRecDepth 100000 in
set_option maxHeartbeats 8000000 in
theorem cut_ok (l : List Wt) (n c : Nat) (A : Option Addr) (d : Int) (hn : Hid (l.length = n)) (hn' : n ≤ 256) (he : Hid (errC l = 0)) (K m : Nat) (hK : Hid (cutN d l = K)) (hm : Hid (n - K = m)) (hKm : K + m = n) (w : World) (hA : WRow w A l) :
    Calls Try.prog 5 #[.slice A n c, .int .i64 d] w fun e w' => e = .returned (.bool true) ∧ Below w.heap.size w w' := by
  have HA := Lib.hid hA
  have hd : Hid ((l.drop K).length = m) := Lib.hid (by rw [List.length_drop, hn.out]; exact hm.out)
  have hok := (errC_zero.1 he.out).2
  have he2 : Hid (errC (l.drop K) = 0) := Lib.hid (errC_zero.2 ⟨by rw [hd.out]; omega, okF_drop (last := 1) K hok hok⟩)
  have hK2 : Hid (cutN d (l.drop K) = 0) := Lib.hid (by rw [← hK.out]; exact cutN_drop d l)
  have HOK := Lib.hid hok
  have hs : (K : Int) + (m : Int) = (n : Int) := by omega
  clear hA hok
  go_enter Try.func5, Try.ntmps5
  go_wp2_with (first | (go_at_call 17; with_reducible refine (works_any _).mono ?_; rintro e w1 ⟨rfl, hb1⟩; have hA1 := HA.out.below hb1; have z1 := hb1.size) | (go_at_call 18; (with_reducible refine (ready_m l d A n c _ hn hA1 he K m hK.out hm.out).mono ?_); rintro e w2 ⟨v2, A2, c2, A3, c3, rfl, -, -, hi2, hR2, -, hb2⟩; have hA2 := hA1.below hb2; have z2 := hb2.size))
  have q2 : Below w.heap.size w w2 := by (repeat' (first | (with_reducible exact Below.refl _ _) | (with_reducible assumption) | (with_reducible refine Below.alloc ?_ ?_ _) | (with_reducible refine below_drewN ?_ _) | (with_reducible refine Below.drew ?_) | (with_reducible refine Below.setCell ?_ ?_ _) | (with_reducible refine below_two ?_ (by with_reducible assumption)) | go_size))
  have HI := Lib.hid hi2.toB
  have HR := Lib.hid hR2
  have HL := Lib.hid hA2.toB
  clear hi2 hR2 hA1 hA2 hb1 hb2 hs
  go_loopw [8] (fun j wr => ∃ k : Nat, k ≤ n ∧ j = .int .i64 k ∧ Below w2.heap.size w2 wr) (fun j _ => n - (intOf j).toNat)
  case atStart => exact ⟨0, by omega, rfl, Below.refl _ _⟩
  case round =>
    obtain ⟨k, hk, rfl, hw⟩ := hrel
    have hz := hw.size
    by_cases hlt : k < n
    · have hlt' : k < l.length := by rw [hn.out]; exact hlt
      obtain ⟨b, off, rfl, hbl, hcl⟩ := HL.out (by rw [rowV_len, hn.out]; omega)
      obtain ⟨c0, c1⟩ := wrow_cells hcl hlt'
      obtain ⟨x, hx⟩ : ∃ x, l[k] = x := ⟨_, rfl⟩
      have HX := Lib.hid hx
      rw [hx] at c0 c1
      obtain ⟨xi, xa⟩ := x
      simp only at c0 c1
      have d0 := (hw.cell (p := ⟨b, off + k * 2, none⟩) hbl).trans c0
      have d1 := (hw.cell (p := ⟨b, off + k * 2 + 1, none⟩) hbl).trans c1
      have k0 : (0 : Int) ≤ (k : Int) := by omega
      have k1 : (k : Int) < (n : Int) := by omega
      clear c0 c1 hx hcl
      by_cases hkK : k < K
      · have hxd : xa ≤ d := by
          have := cutN_lt (d := d) k hlt' (by rw [hK.out]; exact hkK)
          rw [HX.out] at this
          exact this
        obtain ⟨g, o, rfl, hgl, hgc⟩ := HI.out (by simp [idsL, hn.out]; omega)
        have e0 := hgc k _ (idsL_at hkK hlt')
        rw [HX.out] at e0
        have f0 := (hw.cell (p := ⟨g, o + k, none⟩) hgl).trans e0
        simp only at f0
        have t1 : decide ((k : Int) < (K : Int)) = true := decide_eq_true (by omega)
        have t2 : decide ((K : Int) ≤ (k : Int)) = false := decide_eq_false (by omega)
        have t3 : decide (d < xa) = false := decide_eq_false (by omega)
        have t4 : decide (K ≤ k) = false := decide_eq_false (by omega)
        have t5 : decide (k < K) = true := decide_eq_true (by omega)
        have k2 : (k : Int) < (K : Int) := by omega
        clear hgc e0 HX hlt'
        go_wp2
        go_quiet (fail)
        go_wp2
        go_quiet (fail)
        go_wp2
        go_roundw
        case rel => exact ⟨k + 1, by omega, by go_num, by (repeat' (first | (with_reducible exact Below.refl _ _) | (with_reducible assumption) | (with_reducible refine Below.alloc ?_ ?_ _) | (with_reducible refine below_drewN ?_ _) | (with_reducible refine Below.drew ?_) | (with_reducible refine Below.setCell ?_ ?_ _) | (with_reducible refine below_two ?_ (by with_reducible assumption)) | go_size))⟩
        case measure => simp [intOf]; omega
      · obtain ⟨j, hj⟩ : ∃ j, k = K + j := ⟨k - K, by omega⟩
        have hjm : j < m := by omega
        have hxd : d < xa := by
          have := cutN_ge (d := d) HOK.out k hlt' (by rw [hK.out]; omega)
          rw [HX.out] at this
          exact this
        obtain ⟨g, o, rfl, -, hgl, -, hgc⟩ := HR.out (by rw [hd.out]; omega)
        have hjl : j < (l.drop K).length := by rw [hd.out]; exact hjm
        obtain ⟨e0, e1⟩ := wrow_cells hgc hjl
        have hdj : (l.drop K)[j] = ⟨xi, xa⟩ := by
          rw [List.getElem_drop]
          simp only [← hj, HX.out]
        rw [hdj] at e0 e1
        simp only at e0 e1
        have f0 := (hw.cell (p := ⟨g, o + j * 2, none⟩) hgl).trans e0
        have f1 := (hw.cell (p := ⟨g, o + j * 2 + 1, none⟩) hgl).trans e1
        have t1 : decide ((k : Int) < (K : Int)) = false := decide_eq_false (by omega)
        have t2 : decide ((K : Int) ≤ (k : Int)) = true := decide_eq_true (by omega)
        have t3 : decide (xa ≤ d) = false := decide_eq_false (by omega)
        have t4 : decide (K ≤ k) = true := decide_eq_true (by omega)
        have t5 : decide (k < K) = false := decide_eq_false (by omega)
        have j0 : (0 : Int) ≤ (j : Int) := by omega
        have j1 : (j : Int) < (m : Int) := by omega
        have hji : (k : Int) - (K : Int) = (j : Int) := by omega
        have HJ := Lib.hid hj
        have hwj : IntKind.i64.wrap ((j : Nat) : Int) = (j : Int) := IntWalk.i64_in _ (by omega)
        clear hgc e0 e1 hdj HX hlt' hjl hj
        go_wp2
        go_quiet (fail)
        go_wp2
        go_quiet (fail)
        go_wp2
        go_roundw
        case rel => exact ⟨k + 1, by omega, by go_num, by (repeat' (first | (with_reducible exact Below.refl _ _) | (with_reducible assumption) | (with_reducible refine Below.alloc ?_ ?_ _) | (with_reducible refine below_drewN ?_ _) | (with_reducible refine Below.drew ?_) | (with_reducible refine Below.setCell ?_ ?_ _) | (with_reducible refine below_two ?_ (by with_reducible assumption)) | go_size))⟩
        case measure => simp [intOf]; omega
    · have r3 : WRow wr A3 (l.drop K) := (HR.out.below hw).row
      go_wp2_with (first | (go_at_call 18; (with_reducible refine (ready_m (l.drop K) d A3 m c3 _ hd r3 he2 0 m hK2.out (Nat.sub_zero m)).mono ?_); rintro e w3 ⟨v3, A4, c4, A5, c5, rfl, -, -, -, -, -, hb3⟩))
      go_ret
      exact ⟨rfl, by (repeat' (first | (with_reducible exact Below.refl _ _) | (with_reducible assumption) | (with_reducible refine Below.alloc ?_ ?_ _) | (with_reducible refine below_drewN ?_ _) | (with_reducible refine Below.drew ?_) | (with_reducible refine Below.setCell ?_ ?_ _) | (with_reducible refine below_two ?_ (by with_reducible assumption)) | go_size))⟩

theorem cut_any (l : List Wt) (n c : Nat) (A : Option Addr) (d : Int) (hn : l.length = n) (hn' : n ≤ 9223372036854775807) (w : World) (hA : WRow w A l) :
    Calls Try.prog 5 #[.slice A n c, .int .i64 d] w fun e w' => e = .returned (.bool true) ∧ Below w.heap.size w w' := by
  by_cases h0 : errC l = 0
  · have h256 := (errC_zero.1 h0).1
    have hK := cutN_le d l
    exact cut_ok l n c A d (Lib.hid hn) (by omega) (Lib.hid h0) _ (n - cutN d l) (Lib.hid rfl) (Lib.hid rfl) (by omega) w hA
  · exact cut_err l n c A d (Lib.hid hn) hn' _ (Lib.hid rfl) h0 w hA

end Go.Proofs.Ythfnnlcfakkabaa
