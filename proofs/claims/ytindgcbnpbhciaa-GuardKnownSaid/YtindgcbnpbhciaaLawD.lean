/-
  The walk of GuardTold: a byte that is turned is told, at its place.
-/
import Derived.Test.YtindgcbnpbhciaaLawB
import Derived.Test.YtindgcbnpbhciaaBring
import Derived.Lib.MinMax
import Derived.DataShut
import Derived.WalkKit
import Derived.Deep.DeepMust
import Derived.WalkSpells
import Derived.WalkLawsBesides
import Derived.Handy
import Derived.Lib.Hide
import Derived.Deep.QuietTactic
import Derived.BigQuiet
namespace Go.Proofs.Ytindgcbnpbhciaa
open Go.RowKit

theorem u8_ends {n : Int} (h : (Lit.int .u8 n).wf = true) : 0 ≤ n ∧ n ≤ 255 := by
  have h1 := (Lit.wf_int_iff _ _).1 h
  exact ⟨h1.1, by have h2 := h1.2; simp [IntKind.max, IntKind.bits] at h2; omega⟩

/-- One byte turned, inside or around. -/
theorem told_in {s p : Nat} (h1 : 1 ≤ s) (h2 : s ≤ 1024) (hp : p < s + 16) {v : Int} (hv : v ≠ layF s 187 107 165 p) : chkE false ((layL s 187 107 165).set p v) = 180 ∧ chkA false ((layL s 187 107 165).set p v) = p := by
  have hn : ((layL s 187 107 165).set p v).length = s + 16 := by rw [List.length_set, layL_len]
  have hb : ∀ k, k < s + 16 → badF false ((layL s 187 107 165).set p v) k = decide (k = p) := fun k hk => by
    rw [bad_lay hn, List.getD_eq_getElem?_getD, List.getElem?_set]
    by_cases hkp : p = k
    · subst hkp
      rw [if_pos rfl, if_pos (by rw [layL_len]; exact hp), decide_eq_true rfl]
      simpa using hv
    · rw [if_neg hkp, layL_at hk, decide_eq_false (fun e => hkp e.symm)]
      simp
  have hf : firstB (badF false ((layL s 187 107 165).set p v)) 0 ((layL s 187 107 165).set p v).length = some p := by
    rw [hn]
    exact firstB_some.2 ⟨Nat.zero_le _, by omega, by rw [hb p hp]; exact decide_eq_true rfl, fun j _ hj => by rw [hb j (by omega)]; exact decide_eq_false (by omega)⟩
  have h := chk_some (sizeOk_iff.2 (by rw [hn]; omega)) hf
  exact ⟨h.2, h.1⟩
theorem told_out {s p : Nat} (h1 : 1 ≤ s) (h2 : s ≤ 1024) (hp : p < s + 16) (hq : p < 8 ∨ s + 8 ≤ p) {v : Int} (hv : v ≠ 204) : chkE true ((layL s 204 90 90).set p v) = 180 ∧ chkA true ((layL s 204 90 90).set p v) = p := by
  have hn : ((layL s 204 90 90).set p v).length = s + 16 := by rw [List.length_set, layL_len]
  have hb : ∀ k, k < s + 16 → badF true ((layL s 204 90 90).set p v) k = decide (k = p) := fun k hk => by
    by_cases hr : k < 8 ∨ s + 8 ≤ k
    · by_cases hkp : p = k
      · subst hkp
        rw [decide_eq_true rfl]
        refine (bad_out hn hk hr).2 ?_
        rw [List.getElem?_set, if_pos rfl, if_pos (by rw [layL_len]; exact hp)]
        simpa using hv
      · rw [decide_eq_false (fun e => hkp e.symm)]
        refine (bad_out' hn hk hr).2 ?_
        rw [List.getElem?_set, if_neg hkp, layL_at hk]
        unfold layF
        rw [if_pos (by omega)]
    · rw [bad_mid hn hr, decide_eq_false (fun e => hr (by rw [e]; exact hq))]
  have hf : firstB (badF true ((layL s 204 90 90).set p v)) 0 ((layL s 204 90 90).set p v).length = some p := by
    rw [hn]
    exact firstB_some.2 ⟨Nat.zero_le _, by omega, by rw [hb p hp]; exact decide_eq_true rfl, fun j _ hj => by rw [hb j (by omega)]; exact decide_eq_false (by omega)⟩
  have h := chk_some (sizeOk_iff.2 (by rw [hn]; omega)) hf
  exact ⟨h.2, h.1⟩
theorem kept_out {s p : Nat} (h1 : 1 ≤ s) (h2 : s ≤ 1024) (hq : 8 ≤ p ∧ p < s + 8) {v : Int} : chkE true ((layL s 204 90 90).set p v) = 0 := by
  refine out_in (s := s) (by rw [List.length_set, layL_len]) h1 h2 fun k hk hr => ?_
  rw [List.getElem?_set, if_neg (by omega), layL_at hk]
  unfold layF
  rw [if_pos (by omega)]

theorem xor_1 : ∀ t : Fin 256, t.val ≠ 0 → bits BinOp.xor IntKind.u8 187 ((t.val : Nat) : Int) ≠ 187 ∧ bits BinOp.xor IntKind.u8 107 ((t.val : Nat) : Int) ≠ 107 ∧ bits BinOp.xor IntKind.u8 165 ((t.val : Nat) : Int) ≠ 165 ∧ bits BinOp.xor IntKind.u8 204 ((t.val : Nat) : Int) ≠ 204 ∧ bits BinOp.xor IntKind.u8 90 ((t.val : Nat) : Int) ≠ 90 := by decide +kernel

set_option maxRecDepth 100000 in
set_option maxHeartbeats 4000000 in
theorem told_any (z y t : Int) (ht : 0 ≤ t ∧ t ≤ 255) (w : World) : Calls Try.prog 7 #[.int .i64 z, .int .i64 y, .int .u8 t] w fun e w' => e = .returned (.bool true) ∧ Below w.heap.size w w' := by
  obtain ⟨h, Hz⟩ : ∃ h : Nat, Hid (z % 1024 = (h : Int)) := ⟨(z % 1024).toNat, Lib.hid (by omega)⟩
  have hh : h < 1024 := by have := Hz.out; omega
  obtain ⟨N, hN⟩ : ∃ N, Hid (1 + h + 16 = N) := ⟨_, Lib.hid rfl⟩
  have hN1 : N ≤ 1040 := by have := hN.out; omega
  have hNi : (N : Int) = 1 + (h : Int) + 16 := by have := hN.out; omega
  obtain ⟨p, Hp⟩ : ∃ p : Nat, Hid (y % (1 + (h : Int) + 16) = (p : Int)) := ⟨(y % (1 + (h : Int) + 16)).toNat, Lib.hid (by have := Int.emod_nonneg y (b := 1 + (h : Int) + 16) (by omega); omega)⟩
  have hp : p < 1 + h + 16 := by
    have h1 := Hp.out
    have h2 := Int.emod_lt_of_pos y (b := 1 + (h : Int) + 16) (by omega)
    omega
  obtain ⟨T, hT⟩ : ∃ T : Nat, max t 1 = (T : Int) := ⟨(max t 1).toNat, by omega⟩
  have hT1 : 1 ≤ T := by omega
  have hT2 : T ≤ 255 := by omega
  have HNi := Lib.hid hNi
  have e1 : Hid (chkE false (layL (1 + h) 187 107 165) = 0) := Lib.hid (lay_in (by omega) (by omega))
  have l1 : Hid ((layL (1 + h) 187 107 165).length = N) := Lib.hid (by rw [layL_len]; exact hN.out)
  have l2 : Hid ((layL (1 + h) 204 90 90).length = N) := Lib.hid (by rw [layL_len]; exact hN.out)
  have t0 : ((N : Int) != 1 + (h : Int) + 16) = false := by rw [hNi]; simp
  obtain ⟨x1, hx1⟩ : ∃ x, layF (1 + h) 187 107 165 p = x := ⟨_, rfl⟩
  obtain ⟨x2, hx2⟩ : ∃ x, layF (1 + h) 204 90 90 p = x := ⟨_, rfl⟩
  obtain ⟨v1, hv1⟩ : ∃ v, bits BinOp.xor IntKind.u8 x1 (T : Int) = v := ⟨_, rfl⟩
  obtain ⟨v2, hv2⟩ : ∃ v, bits BinOp.xor IntKind.u8 x2 (T : Int) = v := ⟨_, rfl⟩
  have hX := xor_1 ⟨T, by omega⟩ (by show T ≠ 0; omega)
  have hn1 : v1 ≠ x1 := by
    rw [← hv1, ← hx1]
    unfold layF
    split
    · exact hX.1
    · split
      · exact hX.2.2.1
      · exact hX.2.1
  have hn2 : (p < 8 ∨ 1 + h + 8 ≤ p) → v2 ≠ 204 := fun hq => by
    have h4 : x2 = 204 := by rw [← hx2]; unfold layF; rw [if_pos (by omega)]
    rw [← hv2, h4]
    exact hX.2.2.2.1
  have c1 : Hid ((layL (1 + h) 187 107 165)[p]? = some x1) := Lib.hid (by rw [layL_at hp, hx1])
  have c2 : Hid ((layL (1 + h) 204 90 90)[p]? = some x2) := Lib.hid (by rw [layL_at hp, hx2])
  obtain ⟨E1, A1⟩ := told_in (s := 1 + h) (by omega) (by omega) hp (v := v1) (by rw [hx1]; exact hn1)
  have HE1 := Lib.hid E1
  have HA1 := Lib.hid A1
  have p1 : Hid (p < (layL (1 + h) 187 107 165).length) := Lib.hid (by rw [layL_len]; exact hp)
  have p2 : Hid (p < (layL (1 + h) 204 90 90).length) := Lib.hid (by rw [layL_len]; exact hp)
  have l3 : Hid (((layL (1 + h) 187 107 165).set p v1).length = N) := Lib.hid (by rw [List.length_set]; exact l1.out)
  have l4 : Hid (((layL (1 + h) 204 90 90).set p v2).length = N) := Lib.hid (by rw [List.length_set]; exact l2.out)
  have k0 : (0 : Int) ≤ (p : Int) := by omega
  have k1 : (p : Int) < (N : Int) := by omega
  have k2 : (h : Int) ≤ 1023 := by omega
  have k3 : (0 : Int) ≤ (h : Int) := by omega
  have hcase : (∃ D E : Int, Hid (chkA true ((layL (1 + h) 204 90 90).set p v2) = D) ∧ Hid (chkE true ((layL (1 + h) 204 90 90).set p v2) = E) ∧ ((8 ≤ p ∧ p < 1 + h + 8 ∧ E = 0) ∨ ((p < 8 ∨ (8 ≤ p ∧ 1 + h + 8 ≤ p)) ∧ E = 180 ∧ D = p))) := by
    by_cases hq : 8 ≤ p ∧ p < 1 + h + 8
    · exact ⟨_, _, Lib.hid rfl, Lib.hid rfl, .inl ⟨hq.1, hq.2, kept_out (by omega) (by omega) hq⟩⟩
    · obtain ⟨h3, h4⟩ := told_out (s := 1 + h) (by omega) (by omega) hp (by omega) (hn2 (by omega))
      exact ⟨_, _, Lib.hid rfl, Lib.hid rfl, .inr ⟨by omega, h3, h4⟩⟩
  obtain ⟨D, E, HD, HE, hDE⟩ := hcase
  clear hX hn1 hn2 hx1 hx2 E1 A1 hNi
  have hways : (8 ≤ p ∧ p < 1 + h + 8 ∧ E = 0) ∨ (p < 8 ∧ E = 180 ∧ D = p) ∨ (8 ≤ p ∧ 1 + h + 8 ≤ p ∧ E = 180 ∧ D = p) := by
    rcases hDE with h | ⟨h1 | h1, h2, h3⟩
    · exact .inl h
    · exact .inr (.inl ⟨h1, h2, h3⟩)
    · exact .inr (.inr ⟨h1.1, h1.2, h2, h3⟩)
  clear hDE
  rcases hways with ⟨q1, q2, hE0⟩ | ⟨q1, hE0, hD0⟩ | ⟨q1, q2, hE0, hD0⟩
  · subst hE0
    have r1 : (8 : Int) ≤ (p : Int) := by omega
    have r2 : (p : Int) < 1 + (h : Int) + 8 := by omega
    go_enter Try.func7, Try.ntmps7
    go_wp2_with (first | (go_at_call 20; (with_reducible refine (bring_any z 1024 (by omega) (by omega) _).mono ?_); rintro e wq ⟨rfl, hwq⟩; replace hwq := hwq.symm; subst hwq; rw [Hz.out]) | (go_at_call 20; (with_reducible refine (bring_any y (1 + (h : Int) + 16) (by omega) (by omega) _).mono ?_); rintro e wq ⟨rfl, hwq⟩; replace hwq := hwq.symm; subst hwq; rw [Hp.out]) | (go_at_call 9; (with_reducible refine (lay_at (1 + h) N (1 + (h : Int)) (by omega) hN.out (by omega) (by omega) _).mono ?_); rintro e w1 ⟨g1, c1', rfl, hc1, hg1, hM1, hb1⟩; have z1 := hb1.size) | (go_at_call 16; (with_reducible refine (out_at _ (some ⟨g1, 0, none⟩) (1 + h) N c1' hN.out _ l1 hc1 (by omega) hM1.row e1).mono ?_); rintro e w2 ⟨g2, c2', rfl, hc2, hg2, hM2, hb2⟩; have gl1 := hM1.lt; have hM1b := hM1.below hb2; replace hb2 := hb1.trans (hb2.mono z1); have hne : g1 ≠ g2 := (by omega); have cA := hM1b.cell p _ c1.out; have fA := hM1b.frz p; have hM3 := (hM1b.set p1.out v1).far (p := ⟨g2, p, none⟩) hne (.int .u8 v2); have hM4 := (hM2.far (p := ⟨g1, p, none⟩) hne.symm (.int .u8 v1)); have cB := hM4.cell p _ c2.out; have fB := hM4.frz p; have hO3 := hM4.set p2.out v2; have hb3 := (hb2.setCell (p := ⟨g1, p, none⟩) (show w.heap.size ≤ g1 by omega) (.int .u8 v1)).setCell (p := ⟨g2, p, none⟩) (show w.heap.size ≤ g2 by omega) (.int .u8 v2); clear hM1b hM4; have hM3 := Lib.hid hM3; have hO3 := Lib.hid hO3) | (go_at_call 13; (with_reducible refine (check_any _ (some ⟨g1, 0, none⟩) N c1' _ l3 hc1 (by omega) hM3.out.row false).mono ?_); rintro e w4 ⟨rfl, hb4⟩; rw [HE1.out, HA1.out]; have hM4 := hM3.out.below hb4; have hO4 := hO3.out.below hb4; replace hb4 := hb3.trans (hb4.mono hb3.size); have z4 := hb4.size) | (go_at_call 13; (with_reducible refine (check_any _ (some ⟨g2, 0, none⟩) N c2' _ l4 hc2 (by omega) hO4.row true).mono ?_); rintro e w5 ⟨rfl, hb5⟩; rw [HD.out, HE.out]; have hM5 := hM4.below hb5; have hO5 := hO4.below hb5; replace hb5 := hb4.trans (hb5.mono z4); have z5 := hb5.size) | (go_at_call 16; (with_reducible refine (out_no _ (some ⟨g1, 0, none⟩) N c1' _ l3 hc1 (by omega) hM5.row 180 HE1 (by omega)).mono ?_); rintro e w6 ⟨rfl, hb6⟩; have hO6 := hO5.below hb6; replace hb6 := hb5.trans (hb6.mono z5); have z6 := hb6.size) | (go_at_call 18; (with_reducible refine (back_at _ (some ⟨g2, 0, none⟩) (1 + h) N c2' hN.out _ l4 hc2 (by omega) (by omega) hO6.row HE).mono ?_); rintro e w7 ⟨g7, c7, rfl, hc7, hg7, hM7, hb7⟩; replace hb7 := hb6.trans (hb7.mono z6); have z7 := hb7.size) | (go_at_call 12; (with_reducible refine (works_any _).mono ?_); rintro r w8 ⟨rfl, hb8⟩))
    go_ret
    exact ⟨rfl, hb7.trans (hb8.mono z7)⟩
  · subst hE0 hD0
    have r1 : ¬ (8 : Int) ≤ (p : Int) := by omega
    go_enter Try.func7, Try.ntmps7
    go_wp2_with (first | (go_at_call 20; (with_reducible refine (bring_any z 1024 (by omega) (by omega) _).mono ?_); rintro e wq ⟨rfl, hwq⟩; replace hwq := hwq.symm; subst hwq; rw [Hz.out]) | (go_at_call 20; (with_reducible refine (bring_any y (1 + (h : Int) + 16) (by omega) (by omega) _).mono ?_); rintro e wq ⟨rfl, hwq⟩; replace hwq := hwq.symm; subst hwq; rw [Hp.out]) | (go_at_call 9; (with_reducible refine (lay_at (1 + h) N (1 + (h : Int)) (by omega) hN.out (by omega) (by omega) _).mono ?_); rintro e w1 ⟨g1, c1', rfl, hc1, hg1, hM1, hb1⟩; have z1 := hb1.size) | (go_at_call 16; (with_reducible refine (out_at _ (some ⟨g1, 0, none⟩) (1 + h) N c1' hN.out _ l1 hc1 (by omega) hM1.row e1).mono ?_); rintro e w2 ⟨g2, c2', rfl, hc2, hg2, hM2, hb2⟩; have gl1 := hM1.lt; have hM1b := hM1.below hb2; replace hb2 := hb1.trans (hb2.mono z1); have hne : g1 ≠ g2 := (by omega); have cA := hM1b.cell p _ c1.out; have fA := hM1b.frz p; have hM3 := (hM1b.set p1.out v1).far (p := ⟨g2, p, none⟩) hne (.int .u8 v2); have hM4 := (hM2.far (p := ⟨g1, p, none⟩) hne.symm (.int .u8 v1)); have cB := hM4.cell p _ c2.out; have fB := hM4.frz p; have hO3 := hM4.set p2.out v2; have hb3 := (hb2.setCell (p := ⟨g1, p, none⟩) (show w.heap.size ≤ g1 by omega) (.int .u8 v1)).setCell (p := ⟨g2, p, none⟩) (show w.heap.size ≤ g2 by omega) (.int .u8 v2); clear hM1b hM4; have hM3 := Lib.hid hM3; have hO3 := Lib.hid hO3) | (go_at_call 13; (with_reducible refine (check_any _ (some ⟨g1, 0, none⟩) N c1' _ l3 hc1 (by omega) hM3.out.row false).mono ?_); rintro e w4 ⟨rfl, hb4⟩; rw [HE1.out, HA1.out]; have hM4 := hM3.out.below hb4; have hO4 := hO3.out.below hb4; replace hb4 := hb3.trans (hb4.mono hb3.size); have z4 := hb4.size) | (go_at_call 13; (with_reducible refine (check_any _ (some ⟨g2, 0, none⟩) N c2' _ l4 hc2 (by omega) hO4.row true).mono ?_); rintro e w5 ⟨rfl, hb5⟩; rw [HD.out, HE.out]; have hM5 := hM4.below hb5; have hO5 := hO4.below hb5; replace hb5 := hb4.trans (hb5.mono z4); have z5 := hb5.size) | (go_at_call 16; (with_reducible refine (out_no _ (some ⟨g1, 0, none⟩) N c1' _ l3 hc1 (by omega) hM5.row 180 HE1 (by omega)).mono ?_); rintro e w6 ⟨rfl, hb6⟩; have hO6 := hO5.below hb6; replace hb6 := hb5.trans (hb6.mono z5); have z6 := hb6.size) | (go_at_call 18; (with_reducible refine (back_no _ (some ⟨g2, 0, none⟩) N c2' _ l4 hc2 (by omega) hO6.row 180 HE (by omega)).mono ?_); rintro e w7 ⟨rfl, hb7⟩; replace hb7 := hb6.trans (hb7.mono z6); have z7 := hb7.size) | (go_at_call 12; (with_reducible refine (works_any _).mono ?_); rintro r w8 ⟨rfl, hb8⟩))
    go_ret
    exact ⟨rfl, hb7.trans (hb8.mono z7)⟩
  · subst hE0 hD0
    have r1 : (8 : Int) ≤ (p : Int) := by omega
    have r2 : ¬ (p : Int) < 1 + (h : Int) + 8 := by omega
    go_enter Try.func7, Try.ntmps7
    go_wp2_with (first | (go_at_call 20; (with_reducible refine (bring_any z 1024 (by omega) (by omega) _).mono ?_); rintro e wq ⟨rfl, hwq⟩; replace hwq := hwq.symm; subst hwq; rw [Hz.out]) | (go_at_call 20; (with_reducible refine (bring_any y (1 + (h : Int) + 16) (by omega) (by omega) _).mono ?_); rintro e wq ⟨rfl, hwq⟩; replace hwq := hwq.symm; subst hwq; rw [Hp.out]) | (go_at_call 9; (with_reducible refine (lay_at (1 + h) N (1 + (h : Int)) (by omega) hN.out (by omega) (by omega) _).mono ?_); rintro e w1 ⟨g1, c1', rfl, hc1, hg1, hM1, hb1⟩; have z1 := hb1.size) | (go_at_call 16; (with_reducible refine (out_at _ (some ⟨g1, 0, none⟩) (1 + h) N c1' hN.out _ l1 hc1 (by omega) hM1.row e1).mono ?_); rintro e w2 ⟨g2, c2', rfl, hc2, hg2, hM2, hb2⟩; have gl1 := hM1.lt; have hM1b := hM1.below hb2; replace hb2 := hb1.trans (hb2.mono z1); have hne : g1 ≠ g2 := (by omega); have cA := hM1b.cell p _ c1.out; have fA := hM1b.frz p; have hM3 := (hM1b.set p1.out v1).far (p := ⟨g2, p, none⟩) hne (.int .u8 v2); have hM4 := (hM2.far (p := ⟨g1, p, none⟩) hne.symm (.int .u8 v1)); have cB := hM4.cell p _ c2.out; have fB := hM4.frz p; have hO3 := hM4.set p2.out v2; have hb3 := (hb2.setCell (p := ⟨g1, p, none⟩) (show w.heap.size ≤ g1 by omega) (.int .u8 v1)).setCell (p := ⟨g2, p, none⟩) (show w.heap.size ≤ g2 by omega) (.int .u8 v2); clear hM1b hM4; have hM3 := Lib.hid hM3; have hO3 := Lib.hid hO3) | (go_at_call 13; (with_reducible refine (check_any _ (some ⟨g1, 0, none⟩) N c1' _ l3 hc1 (by omega) hM3.out.row false).mono ?_); rintro e w4 ⟨rfl, hb4⟩; rw [HE1.out, HA1.out]; have hM4 := hM3.out.below hb4; have hO4 := hO3.out.below hb4; replace hb4 := hb3.trans (hb4.mono hb3.size); have z4 := hb4.size) | (go_at_call 13; (with_reducible refine (check_any _ (some ⟨g2, 0, none⟩) N c2' _ l4 hc2 (by omega) hO4.row true).mono ?_); rintro e w5 ⟨rfl, hb5⟩; rw [HD.out, HE.out]; have hM5 := hM4.below hb5; have hO5 := hO4.below hb5; replace hb5 := hb4.trans (hb5.mono z4); have z5 := hb5.size) | (go_at_call 16; (with_reducible refine (out_no _ (some ⟨g1, 0, none⟩) N c1' _ l3 hc1 (by omega) hM5.row 180 HE1 (by omega)).mono ?_); rintro e w6 ⟨rfl, hb6⟩; have hO6 := hO5.below hb6; replace hb6 := hb5.trans (hb6.mono z5); have z6 := hb6.size) | (go_at_call 18; (with_reducible refine (back_no _ (some ⟨g2, 0, none⟩) N c2' _ l4 hc2 (by omega) hO6.row 180 HE (by omega)).mono ?_); rintro e w7 ⟨rfl, hb7⟩; replace hb7 := hb6.trans (hb7.mono z6); have z7 := hb7.size) | (go_at_call 12; (with_reducible refine (works_any _).mono ?_); rintro r w8 ⟨rfl, hb8⟩))
    go_ret
    exact ⟨rfl, hb7.trans (hb8.mono z7)⟩

end Go.Proofs.Ytindgcbnpbhciaa
