/-
  The walk of SegsAdds.
-/
import Derived.Test.YthfnnlcfakkabaaLawE
import Derived.Test.YthfnnlcfakkabaaExt
import Derived.WalkKit
import Derived.Deep.DeepMust
import Derived.WalkSpells
import Derived.WalkLawsBesides
import Derived.Handy
import Derived.Lib.Hide
import Derived.Deep.QuietTactic
import Derived.BigQuiet
namespace Go.Proofs.Ythfnnlcfakkabaa
open Go.RowKit

theorem WRow.ext {w : World} {A : Option Addr} {l : List Wt} (h : WRow w A l) (s : Ext w) : WRow s.w A l := Row.below h s.below

set_option maxRecDepth 100000 in
set_option maxHeartbeats 8000000 in
theorem adds_any (l : List Wt) (n0 c0 : Nat) (A0 : Option Addr) (hn0 : Hid (l.length = n0)) (hn0' : n0 ≤ 9223372036854775807) (w : World) (hA : WRow w A0 l) :
    Calls Try.prog 7 #[.slice A0 n0 c0] w fun e w' => e = .returned (.bool true) ∧ Below w.heap.size w w' := by
  have HA := Lib.hid hA.toB
  clear hA
  go_enter Try.func7, Try.ntmps7
  go_wp2
  go_loopw [3, 4] (fun r j wr => ∃ (k n c : Nat) (A : Option Addr) (rl : List Wt), k ≤ n0 ∧ k ≤ 100 ∧ n ≤ k ∧ j = .int .i64 k ∧ r = .slice A n c ∧ Hid (rl.length = n) ∧ Hid (errC rl = 0) ∧ WRow wr A rl ∧ Below w.heap.size w wr) (fun _ j _ => 100 - (intOf j).toNat)
  case atStart => exact ⟨0, 0, 0, none, [], by omega, by omega, by omega, rfl, rfl, Lib.hid rfl, Lib.hid rfl, Row.nil _ _, Below.refl _ _⟩
  case round =>
    obtain ⟨k, n, c, A, rl, hk, hk1, hnk, rfl, rfl, hn, he, hR, hw⟩ := hrel
    have hz := hw.size
    by_cases hlt : k < n0 ∧ k < 100
    · obtain ⟨hlt1, hlt2⟩ := hlt
      have hkl : k < l.length := by rw [hn0.out]; exact hlt1
      obtain ⟨b, off, rfl, hbl, hcl⟩ := HA.out (by rw [rowV_len]; omega)
      obtain ⟨e0, e1⟩ := wrow_cells hcl hkl
      obtain ⟨xi, hxi⟩ : ∃ x, l[k].id = x := ⟨_, rfl⟩
      obtain ⟨xa, hxa⟩ : ∃ x, l[k].at_ = x := ⟨_, rfl⟩
      rw [hxi] at e0
      rw [hxa] at e1
      have d0 := (hw.cell (p := ⟨b, off + k * 2, none⟩) hbl).trans e0
      have d1 := (hw.cell (p := ⟨b, off + k * 2 + 1, none⟩) hbl).trans e1
      have k0 : (0 : Int) ≤ (k : Int) := by omega
      have k1 : (k : Int) < (n0 : Int) := by omega
      have k2 : (k : Int) < 100 := by omega
      have HR := Lib.hid hR
      have h256 : ¬ rl.length = 256 := by rw [hn.out]; omega
      clear hcl e0 e1 hxi hxa hkl hR
      by_cases h3 : errC (rl ++ [⟨xi, xa⟩]) = 0
      · have HF := Lib.hid (addF_ok (x := ⟨xi, xa⟩) he.out h256 h3)
        have HLn : Hid ((rl ++ [(⟨xi, xa⟩ : Wt)]).length = n + 1) := Lib.hid (by rw [List.length_append, hn.out]; rfl)
        have HE0 := Lib.hid h3
        obtain ⟨nx, hnx⟩ : ∃ nx, nextF (rl ++ [⟨xi, xa⟩]) = nx := ⟨_, rfl⟩
        have HNX := Lib.hid hnx
        have hhd : Hid (0 < (rl ++ [(⟨xi, xa⟩ : Wt)]).length) := Lib.hid (by rw [HLn.out]; omega)
        have HN2 : Hid ((rl ++ [(⟨xi, xa⟩ : Wt)])[0]'hhd.out = ⟨((rl ++ [(⟨xi, xa⟩ : Wt)])[0]'hhd.out).id, nx⟩) := Lib.hid (by rw [← hnx, nextF_ok h3 hhd.out])
        clear h3 hnx h256
        go_wp2_with (first | (go_at_call 10; (with_reducible refine (add_any rl xi xa A n c _ hn (by omega) HR.out _ _ HF.out).mono ?_); rintro e w3 ⟨v3, rfl, ho3, hb3⟩; rw [HLn.out] at ho3; obtain ⟨A3, c3, rfl, -, hr3⟩ := WRow.slice ho3; have z3 := hb3.size))
        obtain ⟨g, o, rfl, hgl, hgc⟩ := hr3 (by rw [rowV_len, HLn.out]; omega)
        have f1 := (wrow_cells hgc hhd.out).2
        rw [HN2.out, Nat.zero_mul, Nat.add_zero] at f1
        simp only at f1
        have HE := Lib.hid (WRow.ext hr3)
        have t1 : decide ((0 : Int) < ((n + 1 : Nat) : Int)) = true := decide_eq_true (by omega)
        have t2 : (((n + 1 : Nat) : Int) == 0) = false := by rw [beq_eq_false_iff_ne]; omega
        have t3 : (0 : Int) < ((n + 1 : Nat) : Int) := by omega
        have t4 : decide ((0 : Int) < (n : Int) + 1) = true := decide_eq_true (by omega)
        have t5 : ((n : Int) + 1 == 0) = false := by rw [beq_eq_false_iff_ne]; omega
        have HR1 := Lib.hid hr3
        clear hr3 hgc ho3
        (refine wp_region_ext (w3.heap.size) (by kernel_rfl) (by kernel_rfl) (by go_size) (fun hxc hxf hxh hxn => ?_); (repeat (first | go_big_quiet_step (first | (go_at_call 12; exact ext_call (check_any (rl ++ [⟨xi, xa⟩]) _ (n + 1) c3 _ HLn (by omega) (HE.out _) 0 HE0.out)) | (go_at_call 14; exact ext_call (next_any (rl ++ [⟨xi, xa⟩]) _ (n + 1) c3 _ HLn (by omega) (HE.out _) nx HNX.out))) | quiet_step (first | (go_at_call 12; exact ext_call (check_any (rl ++ [⟨xi, xa⟩]) _ (n + 1) c3 _ HLn (by omega) (HE.out _) 0 HE0.out)) | (go_at_call 14; exact ext_call (next_any (rl ++ [⟨xi, xa⟩]) _ (n + 1) c3 _ HLn (by omega) (HE.out _) nx HNX.out))))); refine wpQuiet_nil ?_; intro w1 hs1; clear hxc hxf hxh hxn; obtain ⟨hb1, hz1, hc1, hf1⟩ := ext_known hs1 (w3.heap.size) (by go_size); clear hs1)
        go_wp2
        go_roundw
        case rel => exact ⟨k + 1, n + 1, c3, _, _, by omega, by omega, by omega, by go_num, rfl, HLn, HE0, HR1.out.below hb1, by (repeat' (first | (with_reducible exact Below.refl _ _) | (with_reducible assumption) | (with_reducible refine Below.alloc ?_ ?_ _) | (with_reducible refine below_drewN ?_ _) | (with_reducible refine Below.drew ?_) | (with_reducible refine Below.setCell ?_ ?_ _) | (with_reducible refine below_two ?_ (by with_reducible assumption)) | go_size))⟩
        case measure => simp [intOf]; omega
      · have HF := Lib.hid (addF_bad (x := ⟨xi, xa⟩) he.out h256 h3)
        clear h3 h256
        go_wp2_with (first | (go_at_call 10; (with_reducible refine (add_any rl xi xa A n c _ hn (by omega) HR.out _ _ HF.out).mono ?_); rintro e w3 ⟨v3, rfl, ho3, hb3⟩; obtain ⟨A3, c3, rfl, -, -⟩ := WRow.slice (l := []) ho3; have z3 := hb3.size))
        have hr3 := HR.out.below hb3
        clear ho3
        rcases Nat.eq_zero_or_pos n with h0 | hp
        · obtain ⟨nx, hnx⟩ : ∃ nx, nextF rl = nx := ⟨_, rfl⟩
          have HNX := Lib.hid hnx
          have hrl : rl = [] := List.eq_nil_of_length_eq_zero (hn.out.trans h0)
          have h00 : Hid (nx = 0) := Lib.hid (by rw [← hnx, hrl]; rfl)
          have hnx0 := h00.out
          clear hrl hnx
          subst hnx0
          have HE := Lib.hid (WRow.ext hr3)
          have HR1 := Lib.hid hr3
          have H00 := Lib.hid h0
          have t1 : decide ((0 : Int) < (n : Int)) = false := decide_eq_false (by omega)
          have t2 : ((n : Int) == 0) = true := by rw [beq_iff_eq]; omega
          have t4 : decide (0 < n) = false := decide_eq_false (by omega)
          clear hr3 h0
          (refine wp_region_ext (w3.heap.size) (by kernel_rfl) (by kernel_rfl) (by go_size) (fun hxc hxf hxh hxn => ?_); (repeat (first | go_big_quiet_step (first | (go_at_call 12; exact ext_call (check_any rl _ n c _ hn (by omega) (HE.out _) 0 he.out)) | (go_at_call 14; exact ext_call (next_any rl _ n c _ hn (by omega) (HE.out _) 0 HNX.out))) | quiet_step (first | (go_at_call 12; exact ext_call (check_any rl _ n c _ hn (by omega) (HE.out _) 0 he.out)) | (go_at_call 14; exact ext_call (next_any rl _ n c _ hn (by omega) (HE.out _) 0 HNX.out))))); refine wpQuiet_nil ?_; intro w1 hs1; clear hxc hxf hxh hxn; obtain ⟨hb1, hz1, hc1, hf1⟩ := ext_known hs1 (w3.heap.size) (by go_size); clear hs1)
          go_wp2
          go_roundw
          case rel => exact ⟨k + 1, n, c, _, rl, by omega, by omega, by omega, by go_num, rfl, hn, he, HR1.out.below hb1, by (repeat' (first | (with_reducible exact Below.refl _ _) | (with_reducible assumption) | (with_reducible refine Below.alloc ?_ ?_ _) | (with_reducible refine below_drewN ?_ _) | (with_reducible refine Below.drew ?_) | (with_reducible refine Below.setCell ?_ ?_ _) | (with_reducible refine below_two ?_ (by with_reducible assumption)) | go_size))⟩
          case measure => simp [intOf]; omega
        · obtain ⟨nx, hnx⟩ : ∃ nx, nextF rl = nx := ⟨_, rfl⟩
          have HNX := Lib.hid hnx
          have hhd : Hid (0 < rl.length) := Lib.hid (by rw [hn.out]; exact hp)
          obtain ⟨g, o, rfl, hgl, hgc⟩ := hr3 (by rw [rowV_len, hn.out]; omega)
          have f1 := (wrow_cells hgc hhd.out).2
          rw [← nextF_ok he.out hhd.out, hnx, Nat.zero_mul, Nat.add_zero] at f1
          have t1 : decide ((0 : Int) < (n : Int)) = true := decide_eq_true (by omega)
          have t2 : ((n : Int) == 0) = false := by rw [beq_eq_false_iff_ne]; omega
          have t3 : (0 : Int) < (n : Int) := by omega
          have t4 : decide (0 < n) = true := decide_eq_true hp
          have HE := Lib.hid (WRow.ext hr3)
          have HR1 := Lib.hid hr3
          clear hr3 hgc hnx hp
          (refine wp_region_ext (w3.heap.size) (by kernel_rfl) (by kernel_rfl) (by go_size) (fun hxc hxf hxh hxn => ?_); (repeat (first | go_big_quiet_step (first | (go_at_call 12; exact ext_call (check_any rl _ n c _ hn (by omega) (HE.out _) 0 he.out)) | (go_at_call 14; exact ext_call (next_any rl _ n c _ hn (by omega) (HE.out _) nx HNX.out))) | quiet_step (first | (go_at_call 12; exact ext_call (check_any rl _ n c _ hn (by omega) (HE.out _) 0 he.out)) | (go_at_call 14; exact ext_call (next_any rl _ n c _ hn (by omega) (HE.out _) nx HNX.out))))); refine wpQuiet_nil ?_; intro w1 hs1; clear hxc hxf hxh hxn; obtain ⟨hb1, hz1, hc1, hf1⟩ := ext_known hs1 (w3.heap.size) (by go_size); clear hs1)
          go_wp2
          go_roundw
          case rel => exact ⟨k + 1, n, c, _, rl, by omega, by omega, by omega, by go_num, rfl, hn, he, HR1.out.below hb1, by (repeat' (first | (with_reducible exact Below.refl _ _) | (with_reducible assumption) | (with_reducible refine Below.alloc ?_ ?_ _) | (with_reducible refine below_drewN ?_ _) | (with_reducible refine Below.drew ?_) | (with_reducible refine Below.setCell ?_ ?_ _) | (with_reducible refine below_two ?_ (by with_reducible assumption)) | go_size))⟩
          case measure => simp [intOf]; omega
    · by_cases hkl : k < n0
      all_goals
        go_wp2_with (first | (go_at_call 17; with_reducible refine (works_any _).mono ?_; rintro e w6 ⟨rfl, hb6⟩))
        go_ret
        exact ⟨rfl, by (repeat' (first | (with_reducible exact Below.refl _ _) | (with_reducible assumption) | (with_reducible refine Below.alloc ?_ ?_ _) | (with_reducible refine below_drewN ?_ _) | (with_reducible refine Below.drew ?_) | (with_reducible refine Below.setCell ?_ ?_ _) | (with_reducible refine below_two ?_ (by with_reducible assumption)) | go_size))⟩

end Go.Proofs.Ythfnnlcfakkabaa
