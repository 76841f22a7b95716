/-
  OwnerMoves.
-/
import Derived.Test.YtehmegnmfpfopaaLawA
import Derived.WalkKit
import Derived.Deep.DeepMust
import Derived.WalkSpells
import Derived.WalkLawsBesides
import Derived.Handy
import Derived.Lib.Hide
import Derived.Deep.QuietTactic
import Derived.BigQuiet
namespace Go.Proofs.Ytehmegnmfpfopaa
open Go.RowKit

theorem bring_k (i n : Int) (k : Int) (hk : i % n = k) (hn : 1 ≤ n) (hn' : n ≤ 4611686018427387904) (w : World) : Calls Try.prog 9 #[.int .i64 i, .int .i64 n] w fun e w' =>
    e = .returned (.int .i64 k) ∧ Below w.heap.size w w' := hk ▸ (bring_any i n hn hn' w).mono fun _ _ ⟨h1, h2⟩ => ⟨h1, by subst h2; exact Below.refl _ _⟩

theorem cnt_moved_from {S O : Nat} {F : Int → Int → Int} {f t : Int} (hne : f ≠ t) : cntF S O (moveF F f t) f = 0 :=
  cntP_zero fun x y _ _ _ _ => by
    unfold isG moveF
    refine decide_eq_false fun h => ?_
    have h2 := h.2
    split at h2
    · exact hne h2.symm
    · rename_i h3; exact h3 h2
theorem cnt_moved_to {S O : Nat} {F : Int → Int → Int} {f t : Int} (hne : f ≠ t) (hf : f ≠ 0) (ht : t ≠ 0) : cntF S O (moveF F f t) t = cntF S O F f + cntF S O F t :=
  cntP_or (fun x y => by
    unfold isG moveF
    by_cases h : F x y = f
    · rw [if_pos h, decide_eq_true ⟨ht, rfl⟩, decide_eq_true ⟨by rw [h]; exact hf, h⟩]; rfl
    · rw [if_neg h, decide_eq_false (p := F x y ≠ 0 ∧ F x y = f) (fun e => h e.2)]; simp) (fun x y h => by
    unfold isG at h ⊢
    have := of_decide_eq_true h
    exact decide_eq_false fun e => hne (this.2.symm.trans e.2))

set_option maxRecDepth 100000 in
set_option maxHeartbeats 4000000 in
theorem moves_any (x y : Int) (L : Nat) (F : Nat → Nat → Int) (A : Option Addr) (c : Nat) (hl : L ≤ maxLen) (w : World) (hA : Recs w A L 5 doK F) :
    Calls Try.prog 5 #[.slice A L c, .int .i64 x, .int .i64 y] w fun e w' => e = .returned (.bool true) ∧ Below w.heap.size w w' := by
  unfold maxLen at hl
  have HA := Lib.hid hA
  clear hA
  have hnew := fun v : World => (new_ok 5 16 (by omega) (by omega) (by omega) (by omega) v)
  obtain ⟨f, hf⟩ : ∃ f, Hid (x % 5 = f) := ⟨_, Lib.hid rfl⟩
  obtain ⟨t, ht⟩ : ∃ t, Hid (y % 5 = t) := ⟨_, Lib.hid rfl⟩
  have hf0 : 0 ≤ f ∧ f < 5 := by rw [← hf.out]; omega
  have ht0 : 0 ≤ t ∧ t < 5 := by rw [← ht.out]; omega
  obtain ⟨f1, f2⟩ := hf0
  obtain ⟨t1, t2⟩ := ht0
  go_enter Try.func5, Try.ntmps5
  go_wp2_with (first | (go_at_call 7; refine (hnew _).mono ?_; rintro e w1 ⟨b, m, rfl, hb, hm, hO, hB⟩))
  go_loopw [9] (fun j wr => ∃ (k : Nat) (G : Int → Int → Int), k ≤ L ∧ k ≤ 100 ∧ j = .int .i64 k ∧ Hid (OwnAt wr b m 5 16 k G) ∧ Below w.heap.size w wr) (fun j _ => 100 - (intOf j).toNat)
  case atStart => exact ⟨0, _, by omega, by omega, rfl, Lib.hid hO, hB⟩
  case round =>
    clear hO hB hnew
    obtain ⟨k, G, hkL, hk100, rfl, HO, hB⟩ := hrel
    have k0 : (0 : Int) ≤ (k : Int) := by omega
    by_cases hlt : k < L ∧ k < 100
    · obtain ⟨hlt1, hlt2⟩ := hlt
      have k1 : (k : Int) < (L : Int) := by omega
      have k2 : (k : Int) < 100 := by omega
      obtain ⟨b0, off, rfl, K, X, I, Gr, T, -, -, d1, d2, d3, -, -⟩ := HA.out.five hB hlt1
      have hb0 : b0 < wr.heap.size := World.block_lt_of_cell? wr _ d1
      obtain ⟨X', hX⟩ : ∃ z, Hid (X % 5 = z) := ⟨_, Lib.hid rfl⟩
      obtain ⟨I', hI⟩ : ∃ z, Hid (I % 16 = z) := ⟨_, Lib.hid rfl⟩
      obtain ⟨G', hG⟩ : ∃ z, Hid (Gr % 4 = z) := ⟨_, Lib.hid rfl⟩
      have x0 : 0 ≤ X' ∧ X' < 5 := by rw [← hX.out]; omega
      have i0 : 0 ≤ I' ∧ I' < 16 := by rw [← hI.out]; omega
      have g0 : 0 ≤ G' ∧ G' < 4 := by rw [← hG.out]; omega
      obtain ⟨x1, x2⟩ := x0
      obtain ⟨i1, i2⟩ := i0
      obtain ⟨g1, g2⟩ := g0
      have wX := Lib.hid (w64_small (x := X') (by omega) (by omega))
      have wI := Lib.hid (w64_small (x := I') (by omega) (by omega))
      have wG := Lib.hid (w64_small (x := 1 + G') (by omega) (by omega))
      go_wp2
      (refine wp_region_tail 20 (wr.heap.size) ?_ ?_ ?_ ?_ ?_ ?_ ?_; kernel_rfl; kernel_rfl; kernel_rfl; kernel_rfl; kernel_rfl; go_size; intro hxc hxf hxh hxn; simp only [List.take, List.drop]; (repeat (first | go_big_quiet_step (first | (go_at_call 9; with_reducible exact ext_call (bring_k X 5 X' hX.out (by omega) (by omega) _)) | (go_at_call 9; with_reducible exact ext_call (bring_k I 16 I' hI.out (by omega) (by omega) _)) | (go_at_call 9; with_reducible exact ext_call (bring_k Gr 4 G' hG.out (by omega) (by omega) _))) | quiet_step (first | (go_at_call 9; with_reducible exact ext_call (bring_k X 5 X' hX.out (by omega) (by omega) _)) | (go_at_call 9; with_reducible exact ext_call (bring_k I 16 I' hI.out (by omega) (by omega) _)) | (go_at_call 9; with_reducible exact ext_call (bring_k Gr 4 G' hG.out (by omega) (by omega) _))))); refine wpQuiet_nil ?_; intro w1 hs1; clear hxc hxf hxh hxn; obtain ⟨hb1, hz1, hc1, hf1⟩ := ext_known hs1 (wr.heap.size) (by go_size); clear hs1)
      go_wp2_with (first | (go_at_call 10; (with_reducible refine (set_any _ b m 5 16 k G (HO.out.below hb1) (by omega) X' I' (1 + G') wX.out wI.out wG.out).mono ?_); rintro e w3 ⟨rfl, hN, hT⟩; replace hB := hT.below (hB.trans (hb1.mono hB.size)) hm (Nat.le_trans hB.size hb1.size); clear hT))
      go_roundw
      case rel => exact ⟨k + 1, _, by omega, by omega, by go_num, Lib.hid hN, hB⟩
      case measure => simp [intOf]; omega
    · have gf : grpB (1 + f) = true := grpB_iff.2 ⟨by omega, by omega⟩
      have gt : grpB (1 + t) = true := grpB_iff.2 ⟨by omega, by omega⟩
      have eE := Lib.hid (show moveE (1 + f) (1 + t) = 0 by unfold moveE; rw [gf, gt]; rfl)
      obtain ⟨a, ha⟩ : ∃ a, Hid (cntF 5 16 G (1 + f) = a) := ⟨_, Lib.hid rfl⟩
      obtain ⟨d, hd⟩ : ∃ d, Hid (cntF 5 16 G (1 + t) = d) := ⟨_, Lib.hid rfl⟩
      have ha2 : a ≤ 4096 := by rw [← ha.out]; exact cntF_le (by omega) (by omega) _ _
      have hd2 : d ≤ 4096 := by rw [← hd.out]; exact cntF_le (by omega) (by omega) _ _
      by_cases hft : f = t
      · subst hft
        have eN := Lib.hid (show moveN 5 16 G (1 + f) (1 + f) = 0 by unfold moveN; rw [gf, decide_eq_true rfl]; rfl)
        have eF := Lib.hid (show movedF G (1 + f) (1 + f) = G by unfold movedF; rw [gf, moveF_same]; rfl)
        clear gf gt hd hd2
        rcases (by omega : (¬ (k : Int) < (L : Int)) ∨ ((k : Int) < (L : Int) ∧ ¬ (k : Int) < 100)) with e1 | ⟨e1, e2⟩
        all_goals
          go_wp2_with (first | (go_at_call 9; (with_reducible refine (bring_any x 5 (by omega) (by omega) _).mono ?_); rintro e w0 ⟨rfl, hw0⟩; replace hw0 := hw0.symm; subst hw0; rw [hf.out]) | (go_at_call 9; (with_reducible refine (bring_any y 5 (by omega) (by omega) _).mono ?_); rintro e w0 ⟨rfl, hw0⟩; replace hw0 := hw0.symm; subst hw0; rw [ht.out]) | (go_at_call 20; (with_reducible refine (count_any _ b m 5 16 k G HO.out (1 + f)).mono ?_); rintro e w3 ⟨rfl, hb3⟩; rw [ha.out]; replace hB := hB.trans (hb3.mono hB.size); have HO := Lib.hid (HO.out.below hb3); clear hb3) | (go_at_call 14; (with_reducible refine (move_any _ b m 5 16 k G HO.out (by omega) (1 + f) (1 + f)).mono ?_); rintro e w4 ⟨rfl, hN, hT⟩; rw [eF.out] at hN; rw [eN.out, eE.out]; replace hB := hT.below hB hm hB.size; clear hT HO; have HO := Lib.hid hN; clear hN) | (go_at_call 17; (with_reducible refine (works_any _).mono ?_); rintro e w5 ⟨rfl, hb5⟩; replace hB := hB.trans (hb5.mono hB.size); clear hb5))
          go_ret
          exact ⟨rfl, hB⟩
      · have hne : 1 + f ≠ 1 + t := by omega
        have eN := Lib.hid (show moveN 5 16 G (1 + f) (1 + t) = (a : Int) by unfold moveN; rw [gf, gt, decide_eq_false hne, ha.out]; rfl)
        have eF := Lib.hid (show movedF G (1 + f) (1 + t) = moveF G (1 + f) (1 + t) by unfold movedF; rw [gf, gt]; rfl)
        have e0 := Lib.hid (show ((cntF 5 16 (moveF G (1 + f) (1 + t)) (1 + f) : Nat) : Int) = 0 by rw [cnt_moved_from hne]; rfl)
        have e3 := Lib.hid (show ((cntF 5 16 (moveF G (1 + f) (1 + t)) (1 + t) : Nat) : Int) = (a : Int) + (d : Int) by rw [cnt_moved_to hne (by omega) (by omega), ha.out, hd.out]; omega)
        clear gf gt
        rcases (by omega : (¬ (k : Int) < (L : Int)) ∨ ((k : Int) < (L : Int) ∧ ¬ (k : Int) < 100)) with e1 | ⟨e1, e2⟩
        all_goals
          go_wp2_with (first | (go_at_call 9; (with_reducible refine (bring_any x 5 (by omega) (by omega) _).mono ?_); rintro e w0 ⟨rfl, hw0⟩; replace hw0 := hw0.symm; subst hw0; rw [hf.out]) | (go_at_call 9; (with_reducible refine (bring_any y 5 (by omega) (by omega) _).mono ?_); rintro e w0 ⟨rfl, hw0⟩; replace hw0 := hw0.symm; subst hw0; rw [ht.out]) | (go_at_call 20; (with_reducible refine (count_any _ b m 5 16 k G HO.out (1 + f)).mono ?_); rintro e w3 ⟨rfl, hb3⟩; rw [ha.out]; replace hB := hB.trans (hb3.mono hB.size); have HO := Lib.hid (HO.out.below hb3); clear hb3) | (go_at_call 20; (with_reducible refine (count_any _ b m 5 16 k G HO.out (1 + t)).mono ?_); rintro e w3 ⟨rfl, hb3⟩; rw [hd.out]; replace hB := hB.trans (hb3.mono hB.size); have HO := Lib.hid (HO.out.below hb3); clear hb3) | (go_at_call 14; (with_reducible refine (move_any _ b m 5 16 k G HO.out (by omega) (1 + f) (1 + t)).mono ?_); rintro e w4 ⟨rfl, hN, hT⟩; rw [eF.out] at hN; rw [eN.out, eE.out]; replace hB := hT.below hB hm hB.size; clear hT HO; have HM := Lib.hid hN; clear hN) | (go_at_call 20; (with_reducible refine (count_any _ b m 5 16 k _ HM.out (1 + f)).mono ?_); rintro e w3 ⟨rfl, hb3⟩; rw [e0.out]; replace hB := hB.trans (hb3.mono hB.size); have HM := Lib.hid (HM.out.below hb3); clear hb3) | (go_at_call 20; (with_reducible refine (count_any _ b m 5 16 k _ HM.out (1 + t)).mono ?_); rintro e w3 ⟨rfl, hb3⟩; rw [e3.out]; replace hB := hB.trans (hb3.mono hB.size); clear hb3) | (go_at_call 17; (with_reducible refine (works_any _).mono ?_); rintro e w5 ⟨rfl, hb5⟩; replace hB := hB.trans (hb5.mono hB.size); clear hb5))
          go_ret
          exact ⟨rfl, hB⟩

end Go.Proofs.Ytehmegnmfpfopaa
