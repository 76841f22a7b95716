/-
  The walks of GuardApart, GuardLays, GuardTurns.
-/
import Derived.Test.YtindgcbnpbhciaaLawA
import Derived.Test.YtindgcbnpbhciaaPlainB
import Derived.WalkKit
import Derived.Deep.DeepMust
import Derived.WalkSpells
import Derived.WalkLawsBesides
import Derived.Handy
import Derived.Lib.Hide
import Derived.Deep.QuietTactic
import Derived.BigQuiet
namespace Go.Proofs.Ytindgcbnpbhciaa
open Go.RowKit

set_option maxHeartbeats 1000000 in
theorem apart_any (xs : List Int) (n : Nat) (hn : Hid (xs.length = n)) (A : Option Addr) (c : Nat) (hnc : n ≤ c) (hm : n ≤ 9223372036854775807) (w : World) (hA : Row w A (bV xs)) : Calls Try.prog 4 #[.slice A n c] w fun e w' => e = .returned (.bool true) ∧ Below w.heap.size w w' := by
  have HA := Lib.hid hA
  obtain ⟨a, ha⟩ : ∃ a, Hid (chkA false xs = a) := ⟨_, Lib.hid rfl⟩
  obtain ⟨b, hb⟩ : ∃ a, Hid (chkA true xs = a) := ⟨_, Lib.hid rfl⟩
  have h3 : (Hid (chkE false xs = 0) ∧ Hid (chkE true xs = 180)) ∨ (Hid (chkE false xs = 180) ∧ Hid (chkE true xs = 0)) ∨ (∃ e f : Int, Hid (chkE false xs = e) ∧ Hid (chkE true xs = f) ∧ e ≠ 0 ∧ f ≠ 0) := by
    by_cases h1 : chkE false xs = 0
    · exact .inl ⟨Lib.hid h1, Lib.hid (in_not_out h1)⟩
    · by_cases h2 : chkE true xs = 0
      · exact .inr (.inl ⟨Lib.hid (out_not_in h2), Lib.hid h2⟩)
      · exact .inr (.inr ⟨_, _, Lib.hid rfl, Lib.hid rfl, h1, h2⟩)
  clear hA
  rcases h3 with ⟨e1, e2⟩ | ⟨e1, e2⟩ | ⟨e, f, e1, e2, h1, h2⟩
  · go_enter Try.func4, Try.ntmps4
    go_wp2_with (first | (go_at_call 13; (with_reducible refine (check_any _ A n c xs hn hnc hm HA.out false).mono ?_); rintro r w1 ⟨rfl, hb1⟩; rw [ha.out, e1.out]; have HA2 := HA.out.below hb1; have z1 := hb1.size) | (go_at_call 13; (with_reducible refine (check_any _ A n c xs hn hnc hm HA2 true).mono ?_); rintro r w2 ⟨rfl, hb2⟩; rw [hb.out, e2.out]; replace hb2 := hb1.trans (hb2.mono z1); have z2 := hb2.size) | (go_at_call 12; (with_reducible refine (works_any _).mono ?_); rintro r w3 ⟨rfl, hb3⟩))
    go_ret
    exact ⟨rfl, hb2.trans (hb3.mono z2)⟩
  · go_enter Try.func4, Try.ntmps4
    go_wp2_with (first | (go_at_call 13; (with_reducible refine (check_any _ A n c xs hn hnc hm HA.out false).mono ?_); rintro r w1 ⟨rfl, hb1⟩; rw [ha.out, e1.out]; have HA2 := HA.out.below hb1; have z1 := hb1.size) | (go_at_call 13; (with_reducible refine (check_any _ A n c xs hn hnc hm HA2 true).mono ?_); rintro r w2 ⟨rfl, hb2⟩; rw [hb.out, e2.out]; replace hb2 := hb1.trans (hb2.mono z1); have z2 := hb2.size) | (go_at_call 12; (with_reducible refine (works_any _).mono ?_); rintro r w3 ⟨rfl, hb3⟩))
    go_ret
    exact ⟨rfl, hb2.trans (hb3.mono z2)⟩
  · have t1 : (e != 0) = true := bne_iff_ne.2 h1
    have t2 : (f != 0) = true := bne_iff_ne.2 h2
    clear h1 h2
    go_enter Try.func4, Try.ntmps4
    go_wp2_with (first | (go_at_call 13; (with_reducible refine (check_any _ A n c xs hn hnc hm HA.out false).mono ?_); rintro r w1 ⟨rfl, hb1⟩; rw [ha.out, e1.out]; have HA2 := HA.out.below hb1; have z1 := hb1.size) | (go_at_call 13; (with_reducible refine (check_any _ A n c xs hn hnc hm HA2 true).mono ?_); rintro r w2 ⟨rfl, hb2⟩; rw [hb.out, e2.out]; replace hb2 := hb1.trans (hb2.mono z1); have z2 := hb2.size) | (go_at_call 12; (with_reducible refine (works_any _).mono ?_); rintro r w3 ⟨rfl, hb3⟩))
    go_ret
    exact ⟨rfl, hb2.trans (hb3.mono z2)⟩

theorem lays_no (z : Int) (h : z < 1 ∨ 1024 < z) (w : World) : Calls Try.prog 3 #[.int .i64 z] w fun e w' => e = .returned (.bool true) ∧ Below w.heap.size w w' := by
  have hby : Hid (By []) := Lib.hid (fun x hx => by cases hx)
  have H := Lib.hid h
  clear h
  go_enter Try.func3, Try.ntmps3
  go_wp2_with (first | (go_at_call 9; (with_reducible refine (lay_no z H.out _).mono ?_); rintro e w0 ⟨rfl, hw0⟩; replace hw0 := hw0.symm; subst hw0) | (go_at_call 10; (with_reducible refine (rlay_no z H.out _).mono ?_); rintro e w0 ⟨rfl, hw0⟩; replace hw0 := hw0.symm; subst hw0) | (go_at_call 11; (with_reducible refine (eqB [] [] 0 0 true rfl rfl hby.out hby.out rfl none none 0 0 _ (Row.nil _ _) (Row.nil _ _)).mono ?_); rintro e w0 ⟨rfl, hw0⟩; replace hw0 := hw0.symm; subst hw0))
  refine wp_loop_rounds 1 ?_
  rw [rounds_succ]
  go_wp2_with (first | (go_at_call 9; (with_reducible refine (lay_no z H.out _).mono ?_); rintro e w0 ⟨rfl, hw0⟩; replace hw0 := hw0.symm; subst hw0) | (go_at_call 11; (with_reducible refine (eqB [] [] 0 0 true rfl rfl hby.out hby.out rfl none none 0 0 _ (Row.nil _ _) (Row.nil _ _)).mono ?_); rintro e w0 ⟨rfl, hw0⟩; replace hw0 := hw0.symm; subst hw0) | (go_at_call 12; (with_reducible refine (works_any _).mono ?_); rintro r w3 ⟨rfl, hb3⟩))
  go_ret
  exact ⟨rfl, hb3⟩

theorem rlay_at (n N : Nat) (z : Int) (hz : (n : Int) = z) (hN : n + 16 = N) (h1 : 1 ≤ n) (hn : n ≤ 1024) (w : World) : Calls Try.prog 10 #[.int .i64 z] w fun e w' => ∃ g c, e = .returned (.tuple #[.slice (some ⟨g, 0, none⟩) N c, .int .i64 0]) ∧ N ≤ c ∧ w.heap.size ≤ g ∧ RowM w' g (layL n 187 107 165) ∧ Below w.heap.size w w' := by
  subst hz hN
  exact rlay_ok n h1 hn w

set_option maxHeartbeats 2000000 in
theorem lays_ok (n N : Nat) (hN : n + 16 = N) (h1 : 1 ≤ n) (h2 : n ≤ 1024) (z : Int) (hz : (n : Int) = z) (w : World) : Calls Try.prog 3 #[.int .i64 z] w fun e w' => e = .returned (.bool true) ∧ Below w.heap.size w w' := by
  have hby : Hid (By (layL n 187 107 165)) := Lib.hid (layL_by (by omega) (by omega) (by omega))
  have hl : Hid ((layL n 187 107 165).length = N) := Lib.hid (by rw [layL_len]; exact hN)
  have n9 : N ≤ 1040 := by omega
  have hz2 := Lib.hid hz
  have hN2 := Lib.hid hN
  obtain ⟨L, hL⟩ : ∃ L, layL n 187 107 165 = L := ⟨_, rfl⟩
  rw [hL] at hby hl
  have HL := Lib.hid hL
  clear hz hN hL
  go_enter Try.func3, Try.ntmps3
  go_wp2_with (first | (go_at_call 9; (with_reducible refine (lay_at n N z hz2.out hN2.out h1 h2 _).mono ?_); rintro e w1 ⟨g1, c1, rfl, hc1, hg1, hM1, hb1⟩; rw [HL.out] at hM1; have z1 := hb1.size) | (go_at_call 10; (with_reducible refine (rlay_at n N z hz2.out hN2.out h1 h2 _).mono ?_); rintro e w2 ⟨g2, c2, rfl, hc2, hg2, hM2, hb2⟩; rw [HL.out] at hM2; have gl1 := hM1.lt; replace hM1 := hM1.below hb2; replace hb2 := hb1.trans (hb2.mono z1); have z2 := hb2.size) | (go_at_call 11; (with_reducible refine (eqB L L N N true hl.out hl.out hby.out hby.out (decide_eq_true rfl) _ _ _ _ _ hM1.row hM2.row).mono ?_); rintro e w0 ⟨rfl, hw0⟩; replace hw0 := hw0.symm; subst hw0))
  have hne : g2 ≠ g1 := by omega
  go_loopw [7] (fun q wr => ∃ (k : Nat) (l1 : List Int), k ≤ N ∧ q = .int .i64 k ∧ Hid (l1.length = N) ∧ RowM wr g1 l1 ∧ RowM wr g2 L ∧ Below w.heap.size w wr) (fun q _ => N - (intOf q).toNat)
  case atStart => exact ⟨0, L, by omega, rfl, hl, hM1, hM2, hb2⟩
  case round =>
    clear hM1 hM2 hb2
    obtain ⟨k, l1, hk, rfl, hl1, hM1, hM2, hb2⟩ := hrel
    have hzz := hb2.size
    have k0 : (0 : Int) ≤ (k : Int) := by omega
    by_cases hlt : k < N
    · have k1 : (k : Int) < (N : Int) := by omega
      have hkl : k < l1.length := by rw [hl1.out]; exact hlt
      have c0 := hM1.cell k _ (List.getElem?_eq_getElem hkl)
      obtain ⟨x, hx⟩ : ∃ x, l1[k] = x := ⟨_, rfl⟩
      rw [hx] at c0
      have f0 := hM1.frz k
      have HN := Lib.hid (hM1.set hkl 1)
      have HM2 := Lib.hid (hM2.far (p := ⟨g1, k, none⟩) hne (.int .u8 1))
      have gg := hg1
      clear hM1 hM2 hx
      go_wp2
      go_roundw
      case rel => exact ⟨k + 1, l1.set k 1, by omega, by go_num, Lib.hid (by rw [List.length_set]; exact hl1.out), HN.out, HM2.out, hb2.setCell gg _⟩
      case measure => simp [intOf]; omega
    · have k1 : ¬ (k : Int) < (N : Int) := by omega
      go_wp2_with (first | (go_at_call 9; (with_reducible refine (lay_at n N z hz2.out hN2.out h1 h2 _).mono ?_); rintro e w3 ⟨g3, c3, rfl, hc3, hg3, hM3, hb3⟩; rw [HL.out] at hM3; replace hM2 := hM2.below hb3; replace hb3 := hb2.trans (hb3.mono hzz); have z3 := hb3.size) | (go_at_call 11; (with_reducible refine (eqB L L N N true hl.out hl.out hby.out hby.out (decide_eq_true rfl) _ _ _ _ _ hM3.row hM2.row).mono ?_); rintro e w0 ⟨rfl, hw0⟩; replace hw0 := hw0.symm; subst hw0) | (go_at_call 12; (with_reducible refine (works_any _).mono ?_); rintro r w4 ⟨rfl, hb4⟩))
      go_ret
      exact ⟨rfl, hb3.trans (hb4.mono z3)⟩
theorem lays_any (z : Int) (w : World) : Calls Try.prog 3 #[.int .i64 z] w fun e w' => e = .returned (.bool true) ∧ Below w.heap.size w w' := by
  by_cases h : z < 1 ∨ 1024 < z
  · exact lays_no z h w
  · exact lays_ok z.toNat _ rfl (by omega) (by omega) z (by omega) w

/-- What Out, Back hand back, whatever they answer. -/
def Hands (w : World) (L : List Int) (M : Nat) (E : Int) (e : Ending) (w' : World) : Prop := ∃ B d, e = .returned (.tuple #[.slice B M d, .int .i64 E]) ∧ Row w' B (bV L) ∧ Below w.heap.size w w'
theorem hands_ok {w w' : World} {l L : List Int} {s M n : Nat} {e : Ending} {E : Int} (h : ∃ g d, e = .returned (.tuple #[.slice (some ⟨g, 0, none⟩) (s + 16) d, .int .i64 0]) ∧ s + 16 ≤ d ∧ w.heap.size ≤ g ∧ RowM w' g l ∧ Below w.heap.size w w') (hl : l = L) (hM : s + 16 = M) (hE : E = 0) (_hn : n = n) : Hands w L M E e w' := by
  obtain ⟨g, d, h1, -, -, h4, h5⟩ := h
  subst hl hM hE
  exact ⟨_, d, h1, h4.row, h5⟩
theorem hands_no {w w' : World} {L : List Int} {M : Nat} {e : Ending} {E : Int} (h : e = .returned (.tuple #[.slice none 0 0, .int .i64 E]) ∧ Below w.heap.size w w') (hl : L = []) (hM : M = 0) : Hands w L M E e w' := by
  subst hl hM
  exact ⟨none, 0, h.1, Row.nil _ _, h.2⟩
theorem out_all (w : World) (A : Option Addr) (n c : Nat) (xs : List Int) (hn : Hid (xs.length = n)) (hnc : n ≤ c) (hm : n ≤ 9223372036854775807) (hA : Row w A (bV xs)) (L : List Int) (hL : Hid (outL xs = L)) (M : Nat) (hM : Hid (L.length = M)) (E : Int) (hE : Hid (chkE false xs = E)) :
    Calls Try.prog 16 #[.slice A n c] w (Hands w L M E) ∧ Calls Try.prog 17 #[.slice A n c] w (Hands w L M E) := by
  have h1 := hL.out
  have h2 := hM.out
  unfold outL at h1
  by_cases h0 : E = 0
  · obtain ⟨s, hs, s1, s2⟩ := chk_zero hn.out (hE.out.trans h0)
    rw [if_pos (hE.out.trans h0), hn.out] at h1
    have h3 : s + 16 = M := by rw [← h2, ← h1, layL_len]; omega
    subst hs
    rw [Nat.add_sub_cancel] at h1
    exact ⟨(out_ok w A s c xs hn hnc s2 hA (Lib.hid (hE.out.trans h0))).mono fun _ _ h => hands_ok (n := 0) h h1 h3 h0 rfl, (rout_ok w A s c xs hn hnc s2 hA (Lib.hid (hE.out.trans h0))).mono fun _ _ h => hands_ok (n := 0) h h1 h3 h0 rfl⟩
  · rw [if_neg (by rw [hE.out]; exact h0)] at h1
    have h3 : M = 0 := by rw [← h2, ← h1]; rfl
    exact ⟨(out_no w A n c xs hn hnc hm hA E hE h0).mono fun _ _ h => hands_no h h1.symm h3, (rout_no w A n c xs hn hnc hA E hE h0).mono fun _ _ h => hands_no h h1.symm h3⟩
theorem back_all (w : World) (A : Option Addr) (n c : Nat) (xs : List Int) (hn : Hid (xs.length = n)) (hnc : n ≤ c) (hm : n ≤ 9223372036854775807) (hA : Row w A (bV xs)) (L : List Int) (hL : Hid (backL xs = L)) (M : Nat) (hM : Hid (L.length = M)) (E : Int) (hE : Hid (chkE true xs = E)) :
    Calls Try.prog 18 #[.slice A n c] w (Hands w L M E) ∧ Calls Try.prog 19 #[.slice A n c] w (Hands w L M E) := by
  have h1 := hL.out
  have h2 := hM.out
  unfold backL at h1
  by_cases h0 : E = 0
  · obtain ⟨s, hs, s1, s2⟩ := chk_zero hn.out (hE.out.trans h0)
    rw [if_pos (hE.out.trans h0), hn.out] at h1
    have h3 : s + 16 = M := by rw [← h2, ← h1, layL_len]; omega
    subst hs
    rw [Nat.add_sub_cancel] at h1
    exact ⟨(back_ok w A s c xs hn hnc s1 s2 hA (Lib.hid (hE.out.trans h0))).mono fun _ _ h => hands_ok (n := 0) h h1 h3 h0 rfl, (rback_ok w A s c xs hn hnc s2 hA (Lib.hid (hE.out.trans h0))).mono fun _ _ h => hands_ok (n := 0) h h1 h3 h0 rfl⟩
  · rw [if_neg (by rw [hE.out]; exact h0)] at h1
    have h3 : M = 0 := by rw [← h2, ← h1]; rfl
    exact ⟨(back_no w A n c xs hn hnc hm hA E hE h0).mono fun _ _ h => hands_no h h1.symm h3, (rback_no w A n c xs hn hnc hA E hE h0).mono fun _ _ h => hands_no h h1.symm h3⟩

set_option maxHeartbeats 4000000 in
theorem turns_any (xs : List Int) (n : Nat) (hn : Hid (xs.length = n)) (hx : Hid (By xs)) (A : Option Addr) (c : Nat) (hnc : n ≤ c) (hm : n ≤ 140737488355328) (out : Bool) (w : World) (hA : Row w A (bV xs)) : Calls Try.prog 5 #[.slice A n c, .bool out] w fun e w' => e = .returned (.bool true) ∧ Below w.heap.size w w' := by
  have HA := Lib.hid hA
  obtain ⟨a, ha⟩ : ∃ a, Hid (chkA out xs = a) := ⟨_, Lib.hid rfl⟩
  obtain ⟨b, hb⟩ : ∃ a, Hid (chkE out xs = a) := ⟨_, Lib.hid rfl⟩
  obtain ⟨E1, hE1⟩ : ∃ a, Hid (chkE false xs = a) := ⟨_, Lib.hid rfl⟩
  obtain ⟨E2, hE2⟩ : ∃ a, Hid (chkE true xs = a) := ⟨_, Lib.hid rfl⟩
  obtain ⟨L1, hL1⟩ : ∃ a, Hid (outL xs = a) := ⟨_, Lib.hid rfl⟩
  obtain ⟨L2, hL2⟩ : ∃ a, Hid (backL xs = a) := ⟨_, Lib.hid rfl⟩
  obtain ⟨M1, hM1⟩ : ∃ a, Hid (L1.length = a) := ⟨_, Lib.hid rfl⟩
  obtain ⟨M2, hM2⟩ : ∃ a, Hid (L2.length = a) := ⟨_, Lib.hid rfl⟩
  have b1 : Hid (By L1) := Lib.hid (by rw [← hL1.out]; exact outL_by xs)
  have b2 : Hid (By L2) := Lib.hid (by rw [← hL2.out]; exact backL_by xs)
  clear hA
  go_enter Try.func5, Try.ntmps5
  go_wp2_with (first | (go_at_call 14; (with_reducible refine (copyB xs A n c _ hn.out hm HA.out).mono ?_); rintro e w1 ⟨A1, c1, rfl, hc1, r1, hb1⟩; have q1 := HA.out.below hb1; have z1 := hb1.size) | (go_at_call 13; (with_reducible refine (check_any _ A1 n c1 xs hn hc1 (by omega) r1 out).mono ?_); rintro r w2 ⟨rfl, hb2⟩; rw [ha.out, hb.out]; have r2 := r1.below hb2; have q2 := q1.below hb2; replace hb2 := hb1.trans (hb2.mono z1); have z2 := hb2.size) | (go_at_call 15; (with_reducible refine (rcheck_any _ A n c xs hn hnc q2 out).mono ?_); rintro r w3 ⟨rfl, hb3⟩; rw [ha.out, hb.out]; have r3 := r2.below hb3; have q3 := q2.below hb3; replace hb3 := hb2.trans (hb3.mono z2); have z3 := hb3.size) | (go_at_call 16; (with_reducible refine (out_all _ A1 n c1 xs hn hc1 (by omega) r3 L1 hL1 M1 hM1 E1 hE1).1.mono ?_); rintro r w4 ⟨B4, d4, rfl, x4, hb4⟩; have r4 := r3.below hb4; have q4 := q3.below hb4; replace hb4 := hb3.trans (hb4.mono z3); have z4 := hb4.size) | (go_at_call 17; (with_reducible refine (out_all _ A n c xs hn hnc (by omega) q4 L1 hL1 M1 hM1 E1 hE1).2.mono ?_); rintro r w5 ⟨B5, d5, rfl, y5, hb5⟩; have r5 := r4.below hb5; have q5 := q4.below hb5; have x5 := x4.below hb5; replace hb5 := hb4.trans (hb5.mono z4); have z5 := hb5.size) | (go_at_call 18; (with_reducible refine (back_all _ A1 n c1 xs hn hc1 (by omega) r5 L2 hL2 M2 hM2 E2 hE2).1.mono ?_); rintro r w6 ⟨B6, d6, rfl, u6, hb6⟩; have r6 := r5.below hb6; have q6 := q5.below hb6; have x6 := x5.below hb6; have y6 := y5.below hb6; replace hb6 := hb5.trans (hb6.mono z5); have z6 := hb6.size) | (go_at_call 19; (with_reducible refine (back_all _ A n c xs hn hnc (by omega) q6 L2 hL2 M2 hM2 E2 hE2).2.mono ?_); rintro r w7 ⟨B7, d7, rfl, v7, hb7⟩; have r7 := r6.below hb7; have q7 := q6.below hb7; have x7 := x6.below hb7; have y7 := y6.below hb7; have u7 := u6.below hb7; replace hb7 := hb6.trans (hb7.mono z6); have z7 := hb7.size) | (go_at_call 11; (with_reducible refine (eqB L1 L1 M1 M1 true hM1.out hM1.out b1.out b1.out (decide_eq_true rfl) B4 B5 d4 d5 _ x7 y7).mono ?_); rintro e w0 ⟨rfl, hw0⟩; replace hw0 := hw0.symm; subst hw0) | (go_at_call 11; (with_reducible refine (eqB L2 L2 M2 M2 true hM2.out hM2.out b2.out b2.out (decide_eq_true rfl) B6 B7 d6 d7 _ u7 v7).mono ?_); rintro e w0 ⟨rfl, hw0⟩; replace hw0 := hw0.symm; subst hw0) | (go_at_call 11; (with_reducible refine (eqB xs xs n n true hn.out hn.out hx.out hx.out (decide_eq_true rfl) A1 A c1 c _ r7 q7).mono ?_); rintro e w0 ⟨rfl, hw0⟩; replace hw0 := hw0.symm; subst hw0) | (go_at_call 12; (with_reducible refine (works_any _).mono ?_); rintro r w8 ⟨rfl, hb8⟩))
  go_ret
  exact ⟨rfl, hb7.trans (hb8.mono z7)⟩

end Go.Proofs.Ytindgcbnpbhciaa
